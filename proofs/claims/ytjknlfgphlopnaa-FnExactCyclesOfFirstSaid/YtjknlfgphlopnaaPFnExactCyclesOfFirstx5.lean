-- Written by this session's pp.py over the kit's print.
import Derived.Test.YtjknlfgphlopnaaPFnExactCyclesOfFirstx0
import Derived.Test.YtjknlfgphlopnaaPFnExactCyclesOfFirstx4
namespace Go.Proofs.Ytjknlfgphlopnaa.PFnExactCyclesOfFirst
open Go.RowKit Go.Proofs.YtjknlfgphlopnaaW.PrintWords Go.Proofs.YtjknlfgphlopnaaW.PrintLast Go.Proofs.YtjknlfgphlopnaaW.PrintMore
attribute [local go_sem] max2_int min2_int max_two min_two max_three min_three max_four min_four   -- for this text's walks alone
set_option linter.unusedVariables false
set_option linter.unusedSimpArgs false

/-! ### impl_First_cycles: function 67 -/
def impl_First_cycles.walk : Nat → Int → Int → Int → Int → Bool → Int → Int → Int → List Int → Int → Option (List Int × Int)
  | 0, _, _, _, _, _, _, _, _, _, _ => none
  | k + 1, a, s, m, b, bw, x, y, wh, q, z => if z > y then (if (q.length : Int) ≤ wh then (if q.length < 17592186044416 then ((impl_First_step.f k a s m b bw z x).bind fun z' => impl_First_cycles.walk k a s m b bw x y wh (q ++ [z]) z') else none) else some (q, z)) else some (q, z)
def impl_First_cycles.one (k : Nat) (a s m b : Int) (bw : Bool) (x y wh : Int) : Option (List Int × Int) := (impl_First_step.f k a s m b bw y x).bind fun z => impl_First_cycles.walk k a s m b bw x y wh [y] z
def impl_First_cycles.l0 : Nat → Int → Int → Int → Int → Bool → Int → Int → Int → List (List Int) → Int → Option (List (List Int))
  | 0, _, _, _, _, _, _, _, _, _, _ => none
  | k + 1, a, s, m, b, bw, x, wh, hi, o, y => if y ≤ hi then ((impl_First_cycles.one k a s m b bw x y wh).bind fun p => if p.2 = y then (if o.length < 5864062014805 then impl_First_cycles.l0 k a s m b bw x wh hi (o ++ [p.1]) (wrap64 (y + 1)) else none) else impl_First_cycles.l0 k a s m b bw x wh hi o (wrap64 (y + 1))) else some o
def impl_First_cycles.f (k : Nat) (a s m b : Int) (bw : Bool) (x : Int) : Option (List (List Int)) := if 0 ≤ b then ((impl_Word_ends.f b bw).bind fun e => if -9223372036854775808 ≤ e.1 ∧ e.1 ≤ e.2 + 1 ∧ e.2 < 9223372036854775807 then impl_First_cycles.l0 k a s m b bw x (shl .i64 1 b) e.2 [] e.1 else none) else none
theorem impl_First_cycles.mono_w : ∀ k a s m b bw x y wh q z, LeO (impl_First_cycles.walk k a s m b bw x y wh q z) (impl_First_cycles.walk (k + 1) a s m b bw x y wh q z)
  | 0, a, s, m, b, bw, x, y, wh, q, z => fun r h => by simp [impl_First_cycles.walk] at h
  | k + 1, a, s, m, b, bw, x, y, wh, q, z => by
    rw [impl_First_cycles.walk, impl_First_cycles.walk]
    exact LeO.ite (LeO.ite (LeO.ite (LeO.bind (impl_First_step.mono _ _ _ _ _ _ _ _) (fun z' => impl_First_cycles.mono_w k a s m b bw x y wh _ z')) (LeO.none _)) (LeO.refl _)) (LeO.refl _)
theorem impl_First_cycles.mono_o (k : Nat) (a s m b : Int) (bw : Bool) (x y wh : Int) : LeO (impl_First_cycles.one k a s m b bw x y wh) (impl_First_cycles.one (k + 1) a s m b bw x y wh) := by
  unfold impl_First_cycles.one
  exact LeO.bind (impl_First_step.mono _ _ _ _ _ _ _ _) (fun z => impl_First_cycles.mono_w k a s m b bw x y wh _ z)
theorem impl_First_cycles.mono_l : ∀ k a s m b bw x wh hi o y, LeO (impl_First_cycles.l0 k a s m b bw x wh hi o y) (impl_First_cycles.l0 (k + 1) a s m b bw x wh hi o y)
  | 0, a, s, m, b, bw, x, wh, hi, o, y => fun r h => by simp [impl_First_cycles.l0] at h
  | k + 1, a, s, m, b, bw, x, wh, hi, o, y => by
    rw [impl_First_cycles.l0, impl_First_cycles.l0]
    exact LeO.ite (LeO.bind (impl_First_cycles.mono_o k a s m b bw x y wh) (fun p => LeO.ite (LeO.ite (impl_First_cycles.mono_l k a s m b bw x wh hi _ _) (LeO.none _)) (impl_First_cycles.mono_l k a s m b bw x wh hi _ _))) (LeO.refl _)
theorem impl_First_cycles.mono : ∀ a s m b bw x k, LeO (impl_First_cycles.f k a s m b bw x) (impl_First_cycles.f (k + 1) a s m b bw x) := by
  intro a s m b bw x k
  unfold impl_First_cycles.f
  exact LeO.ite (LeO.bind (LeO.refl _) (fun e => LeO.ite (impl_First_cycles.mono_l _ _ _ _ _ _ _ _ _ _ _) (LeO.none _))) (LeO.none _)
set_option maxHeartbeats 4000000 in
set_option maxRecDepth 100000 in
theorem impl_First_cycles.lit (k gf gx gw go : Nat) (a s m b : Int) (bw : Bool) (x y wh : Int) (v : Value) (o : List (List Int)) (p : List Int × Int) (w0 W : World)
    (hbf : W.heap[gf]? = some (.cells #[.int .i64 a, .int .i64 s, .int .i64 m, .int .i64 b, .bool bw] 31 (0, 0))) (hbx : W.heap[gx]? = some (.cells #[.int .i64 x] 3 (0, 0))) (hbw : W.heap[gw]? = some (.cells #[.int .i64 wh] 3 (0, 0))) (hbo : W.heap[go]? = some (.cells #[v] 48 (0, 0)))
    (HS : Kd.S (Kd.slice 3 (Kd.int .i64)) 26 W w0.heap.size (fun k_ => k_ ≠ gx ∧ k_ ≠ gw) v o) (hB : Below w0.heap.size w0 W) (hgo : w0.heap.size ≤ go) (h : impl_First_cycles.one k a s m b bw x y wh = some p) (hlim : p.2 = y → o.length < 5864062014805) :
    Calls Try.prog 118 #[.int .i64 y, .pointer (some ⟨gf, 0, none⟩), .pointer (some ⟨gx, 0, none⟩), .pointer (some ⟨gw, 0, none⟩), .pointer (some ⟨go, 0, none⟩)] W fun e W' => e = .returned (.tuple #[]) ∧ Below w0.heap.size w0 W' ∧
      W'.heap[gf]? = some (.cells #[.int .i64 a, .int .i64 s, .int .i64 m, .int .i64 b, .bool bw] 31 (0, 0)) ∧ W'.heap[gx]? = some (.cells #[.int .i64 x] 3 (0, 0)) ∧ W'.heap[gw]? = some (.cells #[.int .i64 wh] 3 (0, 0)) ∧
      ∃ v', W'.heap[go]? = some (.cells #[v'] 48 (0, 0)) ∧ Kd.S (Kd.slice 3 (Kd.int .i64)) 26 W' w0.heap.size (fun k_ => k_ ≠ gx ∧ k_ ≠ gw) v' (if p.2 = y then o ++ [p.1] else o) := by
  unfold impl_First_cycles.one at h
  obtain ⟨z0, A0_, h1⟩ := Option.bind_eq_some_iff.mp h
  have A0 := Aside0.mk A0_
  have H' := Aside0.mk h1
  clear h A0_ h1
  have cf0 : W.cell? ⟨gf, 0, none⟩ = some (.int .i64 a) := (blk_cell hbf 0).trans rfl
  have cf1 : W.cell? ⟨gf, 1, none⟩ = some (.int .i64 s) := (blk_cell hbf 1).trans rfl
  have cf2 : W.cell? ⟨gf, 2, none⟩ = some (.int .i64 m) := (blk_cell hbf 2).trans rfl
  have cf3 : W.cell? ⟨gf, 3, none⟩ = some (.int .i64 b) := (blk_cell hbf 3).trans rfl
  have cf4 : W.cell? ⟨gf, 4, none⟩ = some (.bool bw) := (blk_cell hbf 4).trans rfl
  have cx : W.cell? ⟨gx, 0, none⟩ = some (.int .i64 x) := (blk_cell hbx 0).trans rfl
  have cw : W.cell? ⟨gw, 0, none⟩ = some (.int .i64 wh) := (blk_cell hbw 0).trans rfl
  have co : W.cell? ⟨go, 0, none⟩ = some v := (blk_cell hbo 0).trans rfl
  obtain ⟨q0, hq0⟩ : ∃ q : List Int, q = [y] := ⟨_, rfl⟩
  rw [← hq0] at H'
  have Nq := Aside0.mk hq0
  clear hq0
  have HB0 := Aside0.mk (Below.refl W.heap.size W)
  have CF0 := Aside0.mk cf0
  have CF1 := Aside0.mk cf1
  have CF2 := Aside0.mk cf2
  have CF3 := Aside0.mk cf3
  have CF4 := Aside0.mk cf4
  have CX := Aside0.mk cx
  have CW := Aside0.mk cw
  have CO := Aside0.mk co
  have FB := Aside0.mk hbf
  have XB := Aside0.mk hbx
  have WB := Aside0.mk hbw
  have OB := Aside0.mk hbo
  have HSA := Aside0.mk HS
  have HBA := Aside0.mk hB
  have HGO := Aside0.mk hgo
  have HLIM := Aside0.mk hlim
  clear hbf hbx hbw hbo HS hB hgo hlim
  go_enter Try.func118, Try.ntmps118
  go_wp2_with (first
    | ((with_reducible refine gate_dst (N := 9) rfl ?_); refine Kd.R_lit (Kd.int .i64) _ 3 ?hg (N := 9) ?hd (xs := ([y] : List Int)) (inner := [.int .i64 y]) (ok := fun _ => True) (okp := fun _ => True) ?hr ?hp (fun _ hk => hk) trivial (Below.refl _ _) (Nat.le_refl _) (by simp) ?_; (case hd => rfl); (case hg => rfl); (case hr => first | (go_simp; done) | (go_simp; rfl)); (case hp => exact (Reps.one (show Kd.M (Kd.int .i64) _ _ _ y [.int .i64 y] from rfl) (Reps.none _ _))); intro v156 w9 ho hb hg_ hnew_; clear hg_ hnew_; rw [← Nq.out] at ho; have HL := Aside0.mk (Kd.R_lower ho (below_size (by repeat (first | (with_reducible first | exact HB0.out | apply below_alloc | apply pw_below_drewN | apply below_drew1) | exact HB0.out)))); have m1_ := Aside0.mk (below_step (by repeat (first | (with_reducible first | exact HB0.out | apply below_alloc | apply pw_below_drewN | apply below_drew1) | exact HB0.out)) hb); clear HB0 ho hb; have HB0 := m1_; clear m1_; clear cf0 cf1 cf2 cf3 cf4 cx cw co; have cf0 := (HB0.out.cell (World.block_lt_of_cell? _ _ CF0.out)).trans CF0.out; have cf1 := (HB0.out.cell (World.block_lt_of_cell? _ _ CF1.out)).trans CF1.out; have cf2 := (HB0.out.cell (World.block_lt_of_cell? _ _ CF2.out)).trans CF2.out; have cf3 := (HB0.out.cell (World.block_lt_of_cell? _ _ CF3.out)).trans CF3.out; have cf4 := (HB0.out.cell (World.block_lt_of_cell? _ _ CF4.out)).trans CF4.out; have cx := (HB0.out.cell (World.block_lt_of_cell? _ _ CX.out)).trans CX.out; have cw := (HB0.out.cell (World.block_lt_of_cell? _ _ CW.out)).trans CW.out; have co := (HB0.out.cell (World.block_lt_of_cell? _ _ CO.out)).trans CO.out)
    | (go_at_call 50; ((with_reducible refine (impl_First_step.calls k a s m b bw y x z0 _ A0.out).mono ?_); rintro e w5 ⟨rfl, hb⟩; have m0_ := Aside0.mk (Kd.R_below (by (with_reducible repeat (first | apply Kd.R_alloc | apply Kd.R_drewN | apply Kd.R_drew)); exact HL.out) hb); have m1_ := Aside0.mk (below_step (by repeat (first | (with_reducible first | exact HB0.out | apply below_alloc | apply pw_below_drewN | apply below_drew1) | exact HB0.out)) hb); clear HL HB0 hb; have HL := m0_; have HB0 := m1_; clear m0_ m1_; clear cf0 cf1 cf2 cf3 cf4 cx cw co; have cf0 := (HB0.out.cell (World.block_lt_of_cell? _ _ CF0.out)).trans CF0.out; have cf1 := (HB0.out.cell (World.block_lt_of_cell? _ _ CF1.out)).trans CF1.out; have cf2 := (HB0.out.cell (World.block_lt_of_cell? _ _ CF2.out)).trans CF2.out; have cf3 := (HB0.out.cell (World.block_lt_of_cell? _ _ CF3.out)).trans CF3.out; have cf4 := (HB0.out.cell (World.block_lt_of_cell? _ _ CF4.out)).trans CF4.out; have cx := (HB0.out.cell (World.block_lt_of_cell? _ _ CX.out)).trans CX.out; have cw := (HB0.out.cell (World.block_lt_of_cell? _ _ CW.out)).trans CW.out; have co := (HB0.out.cell (World.block_lt_of_cell? _ _ CO.out)).trans CO.out)))
  go_loopg [6, 7] k (fun kq v6 v7 w' => ∃ (q : List Int) (z : Int), v7 = .int .i64 z ∧ Aside0 (impl_First_cycles.walk kq a s m b bw x y wh q z = some p) ∧ Aside0 (kq ≤ k) ∧ Aside0 (Kd.R (Kd.int .i64) 3 w' W.heap.size (fun _ => True) v6 q) ∧ Aside0 (Below W.heap.size W w'))
  case atStart => exact ⟨q0, z0, rfl, H', ⟨Nat.le_refl _⟩, ⟨(by (with_reducible repeat (first | apply Kd.R_alloc | apply Kd.R_drewN | apply Kd.R_drew)); exact HL.out)⟩, ⟨(by repeat (first | (with_reducible first | exact HB0.out | apply below_alloc | apply pw_below_drewN | apply below_drew1) | exact HB0.out))⟩⟩
  case round =>
    clear H' HL HB0 cf0 cf1 cf2 cf3 cf4 cx cw co
    try clear c1
    try clear p2
    obtain ⟨q, z, rfl, HA, HK1, HL, HB0⟩ := hrel
    have cf0 := (HB0.out.cell (World.block_lt_of_cell? _ _ CF0.out)).trans CF0.out; have cf1 := (HB0.out.cell (World.block_lt_of_cell? _ _ CF1.out)).trans CF1.out; have cf2 := (HB0.out.cell (World.block_lt_of_cell? _ _ CF2.out)).trans CF2.out; have cf3 := (HB0.out.cell (World.block_lt_of_cell? _ _ CF3.out)).trans CF3.out; have cf4 := (HB0.out.cell (World.block_lt_of_cell? _ _ CF4.out)).trans CF4.out; have cx := (HB0.out.cell (World.block_lt_of_cell? _ _ CX.out)).trans CX.out; have cw := (HB0.out.cell (World.block_lt_of_cell? _ _ CW.out)).trans CW.out; have co := (HB0.out.cell (World.block_lt_of_cell? _ _ CO.out)).trans CO.out
    cases gk with
    | zero => exact absurd HA.out (by simp [impl_First_cycles.walk])
    | succ k1 =>
      have H := HA.out
      clear HA
      simp only [impl_First_cycles.walk] at H
      obtain ⟨Aq, cq, eq_⟩ := Kd.R_slice HL.out
      subst eq_
      by_cases c3 : z > y
      · rw [if_pos c3] at H
        have c3b0 : decide (y < z) = true := decide_eq_true c3
        by_cases c4 : (q.length : Int) ≤ wh
        · rw [if_pos c4] at H
          have c4b0 : decide ((q.length : Int) ≤ wh) = true := decide_eq_true c4
          by_cases c5 : q.length < 17592186044416
          · rw [if_pos c5] at H
            obtain ⟨z1, A1_, H1⟩ := Option.bind_eq_some_iff.mp H
            have A1 := Aside0.mk A1_
            have H' := Aside0.mk H1
            have LM := Aside0.mk c5
            clear H A1_ H1 c5 c3 c4
            obtain ⟨q1, hq1⟩ : ∃ q1 : List Int, q1 = q ++ [z] := ⟨_, rfl⟩
            rw [← hq1] at H'
            have Nq1 := Aside0.mk hq1
            clear hq1
            go_wp2_with (first
              | ((with_reducible refine gate_builtin (b := .append) (xs := #[.tmp 23, .tmp 25]) rfl ?_); at_builtin; refine Kd.R_append (Kd.int .i64) (w0 := W) W.heap.size rfl (.tmp 23) (.tmp 25) 26 3 (.int .i64 0) 8 rfl Try.underlying26 info3 rfl (by decide) (by omega) (.slice Aq q.length cq) q z [.int .i64 z] (fun _ => True) (fun _ => False) rfl rfl ?aP (fun _ hk => hk.elim) ?aF ?aO ?aB ?aS ?aL ?_; (case aP => exact rfl); (case aB => exact (by repeat (first | (with_reducible first | exact HB0.out | apply below_alloc | apply pw_below_drewN | apply below_drew1) | exact HB0.out))); (case aF => exact (fun _ _ => trivial)); (case aO => exact (by (with_reducible repeat (first | apply Kd.R_alloc | apply Kd.R_drewN | apply Kd.R_drew)); exact HL.out)); (case aS => exact (below_size (by repeat (first | (with_reducible first | exact HB0.out | apply below_alloc | apply pw_below_drewN | apply below_drew1) | exact HB0.out)))); (case aL => have := LM.out; omega); intro v122 w9 ho hb hg hat; rw [← Nq1.out] at ho; clear HL HB0; have HL := Aside0.mk ho; have HB0 := Aside0.mk hb; clear ho hb hg hat; clear cf0 cf1 cf2 cf3 cf4 cx cw co; have cf0 := (HB0.out.cell (World.block_lt_of_cell? _ _ CF0.out)).trans CF0.out; have cf1 := (HB0.out.cell (World.block_lt_of_cell? _ _ CF1.out)).trans CF1.out; have cf2 := (HB0.out.cell (World.block_lt_of_cell? _ _ CF2.out)).trans CF2.out; have cf3 := (HB0.out.cell (World.block_lt_of_cell? _ _ CF3.out)).trans CF3.out; have cf4 := (HB0.out.cell (World.block_lt_of_cell? _ _ CF4.out)).trans CF4.out; have cx := (HB0.out.cell (World.block_lt_of_cell? _ _ CX.out)).trans CX.out; have cw := (HB0.out.cell (World.block_lt_of_cell? _ _ CW.out)).trans CW.out; have co := (HB0.out.cell (World.block_lt_of_cell? _ _ CO.out)).trans CO.out)
              | (go_at_call 50; ((with_reducible refine (impl_First_step.calls k1 a s m b bw z x z1 _ A1.out).mono ?_); rintro e w5 ⟨rfl, hb⟩; have m0_ := Aside0.mk (Kd.R_below (by (with_reducible repeat (first | apply Kd.R_alloc | apply Kd.R_drewN | apply Kd.R_drew)); exact HL.out) hb); have m1_ := Aside0.mk (below_step (by repeat (first | (with_reducible first | exact HB0.out | apply below_alloc | apply pw_below_drewN | apply below_drew1) | exact HB0.out)) hb); clear HL HB0 hb; have HL := m0_; have HB0 := m1_; clear m0_ m1_; clear cf0 cf1 cf2 cf3 cf4 cx cw co; have cf0 := (HB0.out.cell (World.block_lt_of_cell? _ _ CF0.out)).trans CF0.out; have cf1 := (HB0.out.cell (World.block_lt_of_cell? _ _ CF1.out)).trans CF1.out; have cf2 := (HB0.out.cell (World.block_lt_of_cell? _ _ CF2.out)).trans CF2.out; have cf3 := (HB0.out.cell (World.block_lt_of_cell? _ _ CF3.out)).trans CF3.out; have cf4 := (HB0.out.cell (World.block_lt_of_cell? _ _ CF4.out)).trans CF4.out; have cx := (HB0.out.cell (World.block_lt_of_cell? _ _ CX.out)).trans CX.out; have cw := (HB0.out.cell (World.block_lt_of_cell? _ _ CW.out)).trans CW.out; have co := (HB0.out.cell (World.block_lt_of_cell? _ _ CO.out)).trans CO.out)))
            go_roundg k1
            case measure => have := HK1.out; omega
            case rel => exact ⟨q1, z1, rfl, H', ⟨by have := HK1.out; omega⟩, ⟨(by (with_reducible repeat (first | apply Kd.R_alloc | apply Kd.R_drewN | apply Kd.R_drew)); exact HL.out)⟩, ⟨(by repeat (first | (with_reducible first | exact HB0.out | apply below_alloc | apply pw_below_drewN | apply below_drew1) | exact HB0.out))⟩⟩
          · rw [if_neg c5] at H
            cases H
        · rw [if_neg c4] at H
          have c4b0 : decide ((q.length : Int) ≤ wh) = false := decide_eq_false c4
          have hp := Option.some.inj H
          clear H
          subst hp
          have c6 : ¬ z = y := by omega
          have c6b0 : decide (z = y) = false := decide_eq_false c6
          go_wp2
          go_end0
          refine ⟨rfl, below_step HBA.out (by repeat (first | (with_reducible first | exact HB0.out | apply below_alloc | apply pw_below_drewN | apply below_drew1) | exact HB0.out)), blk_below FB.out (by repeat (first | (with_reducible first | exact HB0.out | apply below_alloc | apply pw_below_drewN | apply below_drew1) | exact HB0.out)), blk_below XB.out (by repeat (first | (with_reducible first | exact HB0.out | apply below_alloc | apply pw_below_drewN | apply below_drew1) | exact HB0.out)), blk_below WB.out (by repeat (first | (with_reducible first | exact HB0.out | apply below_alloc | apply pw_below_drewN | apply below_drew1) | exact HB0.out)), v, blk_below OB.out (by repeat (first | (with_reducible first | exact HB0.out | apply below_alloc | apply pw_below_drewN | apply below_drew1) | exact HB0.out)), ?_⟩
          try rw [if_neg c6]
          exact Kd.S_below HSA.out (by repeat (first | (with_reducible first | exact HB0.out | apply below_alloc | apply pw_below_drewN | apply below_drew1) | exact HB0.out))
      · rw [if_neg c3] at H
        have c3b0 : decide (y < z) = false := decide_eq_false c3
        have hp := Option.some.inj H
        clear H
        subst hp
        by_cases c6 : z = y
        · have c6b0 : decide (z = y) = true := decide_eq_true c6
          subst c6
          go_wp2_with (first | ((with_reducible refine gate_builtin (b := .append) (xs := #[.tmp 34, .tmp 36]) rfl ?_); at_builtin; refine Kd.S_append (Kd.slice 3 (Kd.int .i64)) (w0 := w0) w0.heap.size rfl (.tmp 34) (.tmp 36) 48 26 (.slice none 0 0) 24 rfl Try.underlying48 info26 rfl (by decide) (by omega) v o q [.slice Aq q.length cq] (fun k_ => k_ ≠ gx ∧ k_ ≠ gw) (fun k_ => some k_ = (.slice Aq q.length cq : Value).ownBlock) rfl rfl ?aP ?aK ?aF ?aO ?aB ?aS ?aL ?_; (case aP => exact Kd.M_row (Kd.R_tight rfl (Kd.R_lower (by (with_reducible repeat (first | apply Kd.R_alloc | apply Kd.R_drewN | apply Kd.R_drew)); exact HL.out) (below_size HBA.out)))); (case aK => exact fun k_ hk_ => have h1_ := Kd.R_base HL.out k_ hk_.symm; ⟨⟨fun e_ => by have := blk_lt XB.out; omega, fun e_ => by have := blk_lt WB.out; omega⟩, fun e_ => by have := Kd.S_lt HSA.out k_ e_.symm; omega⟩); (case aF => exact fun k_ hk_ => have h1_ := below_size (by repeat (first | (with_reducible first | exact HB0.out | apply below_alloc | apply pw_below_drewN | apply below_drew1) | exact HB0.out)); ⟨fun e_ => by have := blk_lt XB.out; omega, fun e_ => by have := blk_lt WB.out; omega⟩); (case aO => exact Kd.S_mono (Kd.S_below (Kd.S_bound HSA.out) (by repeat (first | (with_reducible first | exact HB0.out | apply below_alloc | apply pw_below_drewN | apply below_drew1) | exact HB0.out))) (fun k_ hk_ => ⟨hk_.1, fun e_ => by have := Kd.R_base HL.out k_ e_.symm; have := hk_.2.2.1; omega⟩)); (case aB => exact below_step HBA.out (by repeat (first | (with_reducible first | exact HB0.out | apply below_alloc | apply pw_below_drewN | apply below_drew1) | exact HB0.out))); (case aS => exact Nat.le_trans (below_size HBA.out) (below_size (by repeat (first | (with_reducible first | exact HB0.out | apply below_alloc | apply pw_below_drewN | apply below_drew1) | exact HB0.out)))); (case aL => have := HLIM.out rfl; omega); intro v1 w12 ho hb hg hat; have FB2 := Aside0.mk (blk_grown (blk_below FB.out (by repeat (first | (with_reducible first | exact HB0.out | apply below_alloc | apply pw_below_drewN | apply below_drew1) | exact HB0.out))) hg (Kd.S_ne HSA.out FB.out (by decide))); have XB2 := Aside0.mk (blk_grown (blk_below XB.out (by repeat (first | (with_reducible first | exact HB0.out | apply below_alloc | apply pw_below_drewN | apply below_drew1) | exact HB0.out))) hg (Kd.S_ne HSA.out XB.out (by decide))); have WB2 := Aside0.mk (blk_grown (blk_below WB.out (by repeat (first | (with_reducible first | exact HB0.out | apply below_alloc | apply pw_below_drewN | apply below_drew1) | exact HB0.out))) hg (Kd.S_ne HSA.out WB.out (by decide))); have OB2 := Aside0.mk (blk_grown (blk_below OB.out (by repeat (first | (with_reducible first | exact HB0.out | apply below_alloc | apply pw_below_drewN | apply below_drew1) | exact HB0.out))) hg (Kd.S_ne HSA.out OB.out (by decide))); have HS2 := Aside0.mk ho; have HB2 := Aside0.mk hb; clear ho hb hg hat cf0 cf1 cf2 cf3 cf4 cx cw co; have co := (blk_cell OB2.out 0).trans rfl; have cof := blk_frozen OB2.out 0; obtain ⟨Ar, cr, er_⟩ := Kd.S_slice HS2.out; subst er_))
          go_end0
          refine ⟨rfl, below_set HB2.out HGO.out, blk_far FB2.out (blk_ne FB2.out OB2.out (by decide)) _, blk_far XB2.out (blk_ne XB2.out OB2.out (by decide)) _, blk_far WB2.out (blk_ne WB2.out OB2.out (by decide)) _, _, (blk_set OB2.out 0 _).trans rfl, ?_⟩
          try rw [if_pos rfl]
          exact (by have h_ := Kd.S_set HS2.out OB2.out (by decide) 0 (.slice Ar (o ++ [q]).length cr); rw [show (o ++ [q]).length = o.length + 1 by simp] at h_; exact h_)
        · have c6b0 : decide (z = y) = false := decide_eq_false c6
          go_wp2
          go_end0
          refine ⟨rfl, below_step HBA.out (by repeat (first | (with_reducible first | exact HB0.out | apply below_alloc | apply pw_below_drewN | apply below_drew1) | exact HB0.out)), blk_below FB.out (by repeat (first | (with_reducible first | exact HB0.out | apply below_alloc | apply pw_below_drewN | apply below_drew1) | exact HB0.out)), blk_below XB.out (by repeat (first | (with_reducible first | exact HB0.out | apply below_alloc | apply pw_below_drewN | apply below_drew1) | exact HB0.out)), blk_below WB.out (by repeat (first | (with_reducible first | exact HB0.out | apply below_alloc | apply pw_below_drewN | apply below_drew1) | exact HB0.out)), v, blk_below OB.out (by repeat (first | (with_reducible first | exact HB0.out | apply below_alloc | apply pw_below_drewN | apply below_drew1) | exact HB0.out)), ?_⟩
          try rw [if_neg c6]
          exact Kd.S_below HSA.out (by repeat (first | (with_reducible first | exact HB0.out | apply below_alloc | apply pw_below_drewN | apply below_drew1) | exact HB0.out))
theorem impl_First_cycles.empty {α : Type} (d : Kd α) {e : Nat} {w : World} {base g : Nat} {ok : Nat → Prop} (hb : base ≤ g) (hok : ok g) (h : w.heap[g]? = some (.cells #[] e (0, 0))) : Kd.S d e w base ok (.slice (some ⟨g, 0, none⟩) 0 0) [] :=
  ⟨fun _ => 0, fun k hk => by
    have : g = k := by simpa [Value.ownBlock] using hk
    exact this ▸ hok, [], ⟨by simp, .inr ⟨g, 0, #[], rfl, hb, h, by simp, by simp [maxLen], by simp, by simp⟩⟩, Reps.none _ _⟩
theorem impl_First_cycles.al3 (W : World) (o1 o2 o3 : Obj) : (((W.alloc o1).alloc o2).alloc o3).heap[W.heap.size]? = some o1 ∧ (((W.alloc o1).alloc o2).alloc o3).heap[W.heap.size + 1]? = some o2 ∧ (((W.alloc o1).alloc o2).alloc o3).heap[W.heap.size + 1 + 1]? = some o3 := by
  have e1 : (W.alloc o1).heap.size = W.heap.size + 1 := by rw [World.size_alloc]
  have e2 : ((W.alloc o1).alloc o2).heap.size = W.heap.size + 1 + 1 := by rw [World.size_alloc, World.size_alloc]
  exact ⟨blk_alloc (blk_alloc (blk_new W o1) o2) o3, e1 ▸ blk_alloc (blk_new (W.alloc o1) o2) o3, e2 ▸ blk_new ((W.alloc o1).alloc o2) o3⟩
structure impl_First_cycles.J (k : Nat) (a s m b : Int) (bw : Bool) (x wh hi : Int) (r : List (List Int)) (w : World) (gf gx g6 g5 : Nat) (y : Int) (W : World) : Prop where
  below : Below w.heap.size w W
  bf : W.heap[gf]? = some (.cells #[.int .i64 a, .int .i64 s, .int .i64 m, .int .i64 b, .bool bw] 31 (0, 0))
  bx : W.heap[gx]? = some (.cells #[.int .i64 x] 3 (0, 0))
  bw_ : W.heap[g6]? = some (.cells #[.int .i64 wh] 3 (0, 0))
  out : ∃ v o, W.heap[g5]? = some (.cells #[v] 48 (0, 0)) ∧ Kd.S (Kd.slice 3 (Kd.int .i64)) 26 W w.heap.size (fun k_ => k_ ≠ gx ∧ k_ ≠ g6) v o ∧ ∃ kq, kq ≤ k ∧ impl_First_cycles.l0 kq a s m b bw x wh hi o y = some r
theorem impl_First_cycles.J.later {k : Nat} {a s m b : Int} {bw : Bool} {x wh hi : Int} {r : List (List Int)} {w : World} {gf gx g6 g5 : Nat} {y : Int} {W W' : World} (h : impl_First_cycles.J k a s m b bw x wh hi r w gf gx g6 g5 y W) (hb : Below W.heap.size W W') : impl_First_cycles.J k a s m b bw x wh hi r w gf gx g6 g5 y W' := by
  obtain ⟨h1, h2, h3, h4, v, o, h5, h6, h7⟩ := h
  exact ⟨below_step h1 hb, blk_below h2 hb, blk_below h3 hb, blk_below h4 hb, v, o, blk_below h5 hb, Kd.S_below h6 hb, h7⟩
theorem impl_First_cycles.J.round {k : Nat} {a s m b : Int} {bw : Bool} {x wh hi : Int} {r : List (List Int)} {w : World} {gf gx g6 g5 : Nat} {y : Int} {W : World} (hg : w.heap.size ≤ g5) (hhi : hi < 9223372036854775807) (h1 : -9223372036854775808 ≤ y) (h2 : y ≤ hi) (h : impl_First_cycles.J k a s m b bw x wh hi r w gf gx g6 g5 y W) :
    Calls Try.prog 118 (#[.int .i64 y] ++ #[.pointer (some ⟨gf, 0, none⟩), .pointer (some ⟨gx, 0, none⟩), .pointer (some ⟨g6, 0, none⟩), .pointer (some ⟨g5, 0, none⟩)]) W fun e W' => e = .returned (.tuple #[]) ∧ impl_First_cycles.J k a s m b bw x wh hi r w gf gx g6 g5 (y + 1) W' := by
  obtain ⟨i1, i2, i3, i4, v, o, i5, i6, kq, hk, i7⟩ := h
  cases kq with
  | zero => simp [impl_First_cycles.l0] at i7
  | succ k1 =>
    simp only [impl_First_cycles.l0] at i7
    rw [if_pos h2, show wrap64 (y + 1) = y + 1 by unfold wrap64; omega] at i7
    obtain ⟨p, A, i8⟩ := Option.bind_eq_some_iff.mp i7
    have hlim : p.2 = y → o.length < 5864062014805 := fun e => by
      rw [if_pos e] at i8
      apply Classical.byContradiction
      intro hn
      rw [if_neg hn] at i8
      cases i8
    refine (impl_First_cycles.lit k1 gf gx g6 g5 a s m b bw x y wh v o p w W i2 i3 i4 i5 i6 i1 hg A hlim).mono ?_
    rintro e W' ⟨rfl, j1, j2, j3, j4, v', j5, j6⟩
    refine ⟨rfl, j1, j2, j3, j4, v', _, j5, j6, k1, by omega, ?_⟩
    by_cases c : p.2 = y
    · rw [if_pos c, if_pos (hlim c)] at i8
      rw [if_pos c]
      exact i8
    · rw [if_neg c] at i8
      rw [if_neg c]
      exact i8
theorem impl_First_cycles.J.last {k : Nat} {a s m b : Int} {bw : Bool} {x wh hi : Int} {r : List (List Int)} {w : World} {gf gx g6 g5 : Nat} {W : World} (h : impl_First_cycles.J k a s m b bw x wh hi r w gf gx g6 g5 (hi + 1) W) : ∃ v, W.cell? ⟨g5, 0, none⟩ = some v ∧ Kd.S (Kd.slice 3 (Kd.int .i64)) 26 W w.heap.size (fun _ => True) v r ∧ Below w.heap.size w W := by
  obtain ⟨i1, i2, i3, i4, v, o, i5, i6, kq, hk, i7⟩ := h
  cases kq with
  | zero => simp [impl_First_cycles.l0] at i7
  | succ k1 =>
    simp only [impl_First_cycles.l0] at i7
    rw [if_neg (by omega)] at i7
    obtain rfl := Option.some.inj i7
    exact ⟨v, (blk_cell i5 0).trans rfl, Kd.S_mono i6 (fun _ _ => trivial), i1⟩
set_option maxHeartbeats 8000000 in
set_option maxRecDepth 100000 in
theorem impl_First_cycles.calls (k : Nat) (a s m b : Int) (bw : Bool) (x : Int) (r : List (List Int)) (w : World) (h : impl_First_cycles.f k a s m b bw x = some r) :
    Calls Try.prog 67 #[.agg #[.int .i64 a, .int .i64 s, .int .i64 m, .int .i64 b, .bool bw], .int .i64 x] w fun e w' => ∃ v0_ : Value, e = .returned (v0_) ∧ Kd.S (Kd.slice 3 (Kd.int .i64)) 26 w' w.heap.size (fun _ => True) v0_ r ∧ Below w.heap.size w w' := by
  unfold impl_First_cycles.f at h
  by_cases c1 : 0 ≤ b
  case neg => rw [if_neg c1] at h; cases h
  rw [if_pos c1] at h
  obtain ⟨⟨lo, hi⟩, A1_, h1⟩ := Option.bind_eq_some_iff.mp h
  clear h
  dsimp only at h1
  by_cases c2 : -9223372036854775808 ≤ lo ∧ lo ≤ hi + 1 ∧ hi < 9223372036854775807
  case neg => rw [if_neg c2] at h1; cases h1
  rw [if_pos c2] at h1
  obtain ⟨wh, hwh⟩ : ∃ j_ : Int, (shl .i64 1 b) = j_ := ⟨_, rfl⟩
  rw [hwh] at h1
  have A1 := Aside0.mk A1_
  have HR := Aside0.mk h1
  have HL := Aside0.mk c2
  clear A1_ h1 c2
  have c1b0 := eq_true c1
  have c1b1 : decide (0 ≤ b) = true := decide_eq_true c1
  clear c1
  have hji4_ : (IntKind.i64.wrap (1 * 2 ^ min b.toNat 64)) = wh := hwh
  have hji4z : b ≤ 64 → (IntKind.i64.wrap (1 * 2 ^ b.toNat)) = wh := shl_small hwh
  have hji4u : (IntKind.i64.wrap (2 ^ min b.toNat 64)) = wh := by have h_ := hji4_; rw [Int.one_mul] at h_; exact h_
  have hji4v : b ≤ 64 → (IntKind.i64.wrap (2 ^ b.toNat)) = wh := fun hle_ => by have h_ := hji4z hle_; rw [Int.one_mul] at h_; exact h_
  have hji4y : (wrap64 (1 * 2 ^ min b.toNat 64)) = wh := (i64_w _).symm.trans hji4_
  have hji4x : b ≤ 64 → (wrap64 (1 * 2 ^ b.toNat)) = wh := fun h_ => (i64_w _).symm.trans (hji4z h_)
  have HB := Aside0.mk (Below.refl w.heap.size w)
  go_enter Try.func67, Try.ntmps67
  go_upto_region 1 with (first
    | ((with_reducible refine gate_dst (N := 2) rfl ?_); refine box_event ?hg (N := 2) ?hd (cs := #[.int .i64 a, .int .i64 s, .int .i64 m, .int .i64 b, .bool bw]) (t := 31) ?hr ?_; (case hd => rfl); (case hg => rfl); (case hr => first | (go_simp; done) | (go_simp; rfl)); intro gf hgf w1 hbf hb; have m0_ := Aside0.mk (below_step (by repeat (first | (with_reducible first | exact HB.out | apply below_alloc | apply pw_below_drewN | apply below_drew1) | exact HB.out)) hb); clear HB hb; have HB := m0_; clear m0_; have BF := Aside0.mk hbf; clear hbf hgf)
    | ((with_reducible refine gate_dst (N := 3) rfl ?_); refine box_event ?hg (N := 3) ?hd (cs := #[.int .i64 x]) (t := 3) ?hr ?_; (case hd => rfl); (case hg => rfl); (case hr => first | (go_simp; done) | (go_simp; rfl)); intro gx hgx w2 hbx hb; have m0_ := Aside0.mk (below_step (by repeat (first | (with_reducible first | exact HB.out | apply below_alloc | apply pw_below_drewN | apply below_drew1) | exact HB.out)) hb); have m1_ := Aside0.mk (blk_below BF.out hb); clear HB hb BF; have HB := m0_; have BF := m1_; clear m0_ m1_; have BX := Aside0.mk hbx; clear hbx hgx))
  go_cut [5, 6] (fun v5 v6 wc => ∃ (g5 g6 : Nat), v5 = .pointer (some ⟨g5, 0, none⟩) ∧ v6 = .pointer (some ⟨g6, 0, none⟩) ∧ Aside0 (w.heap.size ≤ g5) ∧ Aside0 (impl_First_cycles.J k a s m b bw x wh hi r w gf gx g6 g5 lo wc))
  case first =>
    have cf3 : w2.cell? ⟨gf, 3, none⟩ = some (.int .i64 b) := (blk_cell BF.out 3).trans rfl
    have al1 : ∀ (W : World) (o : Obj), W.cell? ⟨gf, 3, none⟩ = some (.int .i64 b) → (W.alloc o).cell? ⟨gf, 3, none⟩ = some (.int .i64 b) := fun W o h_ => ((below_alloc (Below.refl _ _) o).cell (World.block_lt_of_cell? _ _ h_)).trans h_
    have cf3a : ∀ o1, (w2.alloc o1).cell? ⟨gf, 3, none⟩ = some (.int .i64 b) := fun o1 => al1 _ _ cf3
    have cf3b : ∀ o1 o2, ((w2.alloc o1).alloc o2).cell? ⟨gf, 3, none⟩ = some (.int .i64 b) := fun o1 o2 => al1 _ _ (cf3a o1)
    have cf3c : ∀ o1 o2 o3, (((w2.alloc o1).alloc o2).alloc o3).cell? ⟨gf, 3, none⟩ = some (.int .i64 b) := fun o1 o2 o3 => al1 _ _ (cf3b o1 o2)
    clear al1
    go_region
    all_goals
      clear cf3 cf3a cf3b cf3c
      go_wp2
      go_meet
      case rel => have hs_ := below_size HB.out; have hx_ := blk_lt BX.out; exact ⟨_, _, rfl, rfl, ⟨by omega⟩, ⟨⟨(by repeat (first | (with_reducible first | exact HB.out | apply below_alloc | apply pw_below_drewN | apply below_drew1) | exact HB.out)), blk_drew (blk_alloc (blk_alloc (blk_alloc BF.out _) _) _), blk_drew (blk_alloc (blk_alloc (blk_alloc BX.out _) _) _), (by first | exact blk_drew (impl_First_cycles.al3 _ _ _ _).1 | exact blk_drew (impl_First_cycles.al3 _ _ _ _).2.1 | exact blk_drew (impl_First_cycles.al3 _ _ _ _).2.2), _, [], (by first | exact blk_drew (impl_First_cycles.al3 _ _ _ _).1 | exact blk_drew (impl_First_cycles.al3 _ _ _ _).2.1 | exact blk_drew (impl_First_cycles.al3 _ _ _ _).2.2), impl_First_cycles.empty _ (by omega) ⟨by omega, by omega⟩ (by first | exact blk_drew (impl_First_cycles.al3 _ _ _ _).1 | exact blk_drew (impl_First_cycles.al3 _ _ _ _).2.1 | exact blk_drew (impl_First_cycles.al3 _ _ _ _).2.2), k, Nat.le_refl _, HR.out⟩⟩⟩
  case rest =>
    clear HB BF BX
    obtain ⟨g5, g6, rfl, rfl, HG, HJ⟩ := hcut
    have hcz_3 : wc.cell? ⟨gf, 3, none⟩ = some (.int .i64 b) := (blk_cell HJ.out.bf 3).trans rfl
    have hcz_4 : wc.cell? ⟨gf, 4, none⟩ = some (.bool bw) := (blk_cell HJ.out.bf 4).trans rfl
    have EG := Aside0.mk (show ∀ (args : Array Value) (W : World), (callFunc 118 args).run Try.prog W = .ok (.enter 118 args) W from enters_of Try.func118 (by kernel_rfl) rfl)
    go_wp2_with (first
      | (go_at_call 117; ((with_reducible refine (impl_Word_all.callsG 118 EG.out _ b bw lo hi (impl_First_cycles.J k a s m b bw x wh hi r w gf gx g6 g5) _ A1.out ?s1 ?s2 ?s3 ?s4 ?s5).mono ?_); (case s1 => exact ⟨HL.out.1, HL.out.2.1⟩); (case s2 => exact HL.out.2.2); (case s3 => exact fun W hb_ => HJ.out.later hb_); (case s4 => exact fun y W n hj_ => hj_.later (pw_below_drewN (Below.refl _ _) n)); (case s5 => exact fun y W h1_ h2_ hj_ => hj_.round HG.out HL.out.2.2 (by have := HL.out.1; omega) h2_); rintro e w5 ⟨rfl, hj⟩; clear hcz_3 hcz_4 HJ; obtain ⟨v, hcv, hsv, hbv⟩ := hj.last; clear hj; have SV := Aside0.mk hsv; have BV := Aside0.mk hbv; clear hsv hbv)))
    go_ret
    exact ⟨v, rfl, SV.out, BV.out⟩

/-! ### impl_CyclesOfFirst: function 28 -/
def impl_CyclesOfFirst.f (k : Nat) (a0_0 : Int) (a0_1 : Int) (a0_2 : Int) (a0_3 : Int) (a0_4 : Bool) (a1 : Int) : Option ((List (List Int)) × Bool) := (impl_First_isScanned.f a0_0 a0_1 a0_2 a0_3 a0_4 a1).bind fun t264 => (if t264 = true then ((impl_First_cycles.f k a0_0 a0_1 a0_2 a0_3 a0_4 a1).bind fun t265 => (some (t265, true))) else (some (([] : List (List Int)), false)))
theorem impl_CyclesOfFirst.mono : ∀ a0 a1 a2 a3 a4 a5 k, LeO (impl_CyclesOfFirst.f k a0 a1 a2 a3 a4 a5) (impl_CyclesOfFirst.f (k + 1) a0 a1 a2 a3 a4 a5) := by
  intro a0 a1 a2 a3 a4 a5 k
  unfold impl_CyclesOfFirst.f
  repeat' first
      | (with_reducible exact impl_First_cycles.mono _ _ _ _ _ _ _)
      | (with_reducible exact LeO.refl _)
      | (with_reducible exact LeO.none _)
      | (with_reducible refine LeO.ite ?_ ?_)
      | (with_reducible refine LeO.bind ?_ (fun _ => ?_))
      | exact impl_First_cycles.mono _ _ _ _ _ _ _
      | exact LeO.none _
      | refine LeO.ite ?_ ?_
      | refine LeO.bind ?_ (fun _ => ?_)
set_option maxHeartbeats 8000000 in
set_option maxRecDepth 100000 in
theorem impl_CyclesOfFirst.calls (k : Nat) (a0_0 : Int) (a0_1 : Int) (a0_2 : Int) (a0_3 : Int) (a0_4 : Bool) (a1 : Int) (r1 : List (List Int)) (r2 : Bool) (w : World) (h : impl_CyclesOfFirst.f k a0_0 a0_1 a0_2 a0_3 a0_4 a1 = some (r1, r2)) :
    Calls Try.prog 28 #[.agg #[.int .i64 a0_0, .int .i64 a0_1, .int .i64 a0_2, .int .i64 a0_3, .bool a0_4], .int .i64 a1] w fun e w' => ∃ v0_ : Value, e = .returned (.tuple #[v0_, .bool r2]) ∧ Kd.S (Kd.slice 3 (Kd.int .i64)) 26 w' w.heap.size (fun _ => True) v0_ r1 ∧ Below w.heap.size w w' := by
  have hu31 := Try.underlying31
  have HB := Aside0.mk (Below.refl w.heap.size w)
  have H : ((impl_First_isScanned.f a0_0 a0_1 a0_2 a0_3 a0_4 a1).bind fun t264 => (if t264 = true then ((impl_First_cycles.f k a0_0 a0_1 a0_2 a0_3 a0_4 a1).bind fun t265 => (some (t265, true))) else (some (([] : List (List Int)), false)))) = some (r1, r2) := h
  clear h
  replace H := Option.bind_eq_some_iff.mp H
  obtain ⟨t264, A30, H⟩ := H
  replace H : (if t264 = true then ((impl_First_cycles.f k a0_0 a0_1 a0_2 a0_3 a0_4 a1).bind fun t265 => (some (t265, true))) else (some (([] : List (List Int)), false))) = some (r1, r2) := H
  have A3 := Aside0.mk A30
  clear A30
  by_cases c4 : t264 = true
  · subst c4
    have H1 : ((impl_First_cycles.f k a0_0 a0_1 a0_2 a0_3 a0_4 a1).bind fun t265 => (some (t265, true))) = some (r1, r2) := by rw [if_pos rfl] at H; exact H
    clear H
    have H := H1
    clear H1
    replace H := Option.bind_eq_some_iff.mp H
    obtain ⟨t265, A50, H⟩ := H
    replace H : (some (t265, true)) = some (r1, r2) := H
    have A5 := Aside0.mk A50
    clear A50
    simp only [Option.some.injEq, Prod.mk.injEq] at H
    obtain ⟨rfl, rfl⟩ := H
    go_enter Try.func28, Try.ntmps28
    go_wp2_with (first | ((with_reducible refine gate_dst (N := 2) rfl ?_); refine box_event ?hg (N := 2) ?hd (cs := #[.int .i64 a0_0, .int .i64 a0_1, .int .i64 a0_2, .int .i64 a0_3, .bool a0_4]) (t := 31) ?hr ?_; (case hd => rfl); (case hg => rfl); (case hr => first | (go_simp; done) | (go_simp; rfl)); intro gb263 hg w6 hbox hb; have n0_ := Aside0.mk (below_step (by repeat (first | (with_reducible first | exact HB.out | apply below_alloc | apply pw_below_drewN | apply below_drew1) | exact HB.out)) hb); have n1_ := Aside0.mk (hbox); have n2_ := Aside0.mk ((by rw [hg]; exact (below_size (by repeat (first | (with_reducible first | exact HB.out | apply below_alloc | apply pw_below_drewN | apply below_drew1) | exact HB.out))) : w.heap.size ≤ gb263)); have n3_ := Aside0.mk ((by rw [hg]; exact (below_size (by repeat (first | (with_reducible first | exact HB.out | apply below_alloc | apply pw_below_drewN | apply below_drew1) | exact HB.out))) : w.heap.size ≤ gb263)); clear HB; have HB := n0_; have BK263 := n1_; have GW263 := n2_; have GE263 := n3_; clear n0_ n1_ n2_ n3_; clear hb hbox hg; have hcz7_0 : w6.cell? ⟨gb263, 0, none⟩ = some (.int .i64 a0_0) := (blk_cell BK263.out 0).trans rfl; have hcz7_1 : w6.cell? ⟨gb263, 1, none⟩ = some (.int .i64 a0_1) := (blk_cell BK263.out 1).trans rfl; have hcz7_2 : w6.cell? ⟨gb263, 2, none⟩ = some (.int .i64 a0_2) := (blk_cell BK263.out 2).trans rfl; have hcz7_3 : w6.cell? ⟨gb263, 3, none⟩ = some (.int .i64 a0_3) := (blk_cell BK263.out 3).trans rfl; have hcz7_4 : w6.cell? ⟨gb263, 4, none⟩ = some (.bool a0_4) := (blk_cell BK263.out 4).trans rfl; have hfz7_0 := blk_frozen BK263.out 0; have hfz7_1 := blk_frozen BK263.out 1; have hfz7_2 := blk_frozen BK263.out 2; have hfz7_3 := blk_frozen BK263.out 3; have hfz7_4 := blk_frozen BK263.out 4) | ((with_reducible refine gate_callee (f := 66) rfl ?_); refine goesL_ (some 8) rfl rfl Try.func66 (by kernel_rfl) rfl #[.agg #[.int .i64 a0_0, .int .i64 a0_1, .int .i64 a0_2, .int .i64 a0_3, .bool a0_4], .int .i64 a1] rfl (by (try simp only [List.map_toArray, List.map_cons, List.map_nil]); first | done | rfl | (simp only [List.length_drop, List.length_take]; rfl)) ?_; (with_reducible refine (impl_First_isScanned.calls a0_0 a0_1 a0_2 a0_3 a0_4 a1 true _ A3.out).mono ?_); rintro e w8 ⟨rfl, hb⟩; refine ⟨_, rfl, ?_⟩; have n0_ := Aside0.mk (blk_below (g := gb263) (o := .cells #[.int .i64 a0_0, .int .i64 a0_1, .int .i64 a0_2, .int .i64 a0_3, .bool a0_4] 31 (0, 0)) (by (with_reducible repeat (first | refine blk_drewN ?_ _ | refine blk_drew ?_ | refine blk_alloc ?_ _)); exact BK263.out) hb); have n1_ := Aside0.mk (below_step (by repeat (first | (with_reducible first | exact HB.out | apply below_alloc | apply pw_below_drewN | apply below_drew1 | refine below_set ?_ GE263.out) | exact HB.out)) hb); clear BK263; clear HB; have BK263 := n0_; have HB := n1_; clear n0_ n1_; (try clear hb); (try clear hb2); (try clear hk); (try clear hi); have hcz9_0 : w8.cell? ⟨gb263, 0, none⟩ = some (.int .i64 a0_0) := (blk_cell BK263.out 0).trans rfl; have hcz9_1 : w8.cell? ⟨gb263, 1, none⟩ = some (.int .i64 a0_1) := (blk_cell BK263.out 1).trans rfl; have hcz9_2 : w8.cell? ⟨gb263, 2, none⟩ = some (.int .i64 a0_2) := (blk_cell BK263.out 2).trans rfl; have hcz9_3 : w8.cell? ⟨gb263, 3, none⟩ = some (.int .i64 a0_3) := (blk_cell BK263.out 3).trans rfl; have hcz9_4 : w8.cell? ⟨gb263, 4, none⟩ = some (.bool a0_4) := (blk_cell BK263.out 4).trans rfl; have hfz9_0 := blk_frozen BK263.out 0; have hfz9_1 := blk_frozen BK263.out 1; have hfz9_2 := blk_frozen BK263.out 2; have hfz9_3 := blk_frozen BK263.out 3; have hfz9_4 := blk_frozen BK263.out 4) | ((with_reducible refine gate_callee (f := 67) rfl ?_); refine goesL_ (some 12) rfl rfl Try.func67 (by kernel_rfl) rfl #[.agg #[.int .i64 a0_0, .int .i64 a0_1, .int .i64 a0_2, .int .i64 a0_3, .bool a0_4], .int .i64 a1] rfl (by (try simp only [List.map_toArray, List.map_cons, List.map_nil]); first | done | rfl | (simp only [List.length_drop, List.length_take]; rfl)) ?_; (with_reducible refine (impl_First_cycles.calls k a0_0 a0_1 a0_2 a0_3 a0_4 a1 t265 _ A5.out).mono ?_); rintro e w10 ⟨v266, rfl, ho0, hb⟩; refine ⟨_, rfl, ?_⟩; have n0_ := Aside0.mk (Kd.S_lower ho0 (below_size (by repeat (first | (with_reducible first | exact HB.out | apply below_alloc | apply pw_below_drewN | apply below_drew1 | refine below_set ?_ GE263.out) | exact HB.out)))); have n1_ := Aside0.mk (blk_below (g := gb263) (o := .cells #[.int .i64 a0_0, .int .i64 a0_1, .int .i64 a0_2, .int .i64 a0_3, .bool a0_4] 31 (0, 0)) (by (with_reducible repeat (first | refine blk_drewN ?_ _ | refine blk_drew ?_ | refine blk_alloc ?_ _)); exact BK263.out) hb); have n2_ := Aside0.mk (below_step (by repeat (first | (with_reducible first | exact HB.out | apply below_alloc | apply pw_below_drewN | apply below_drew1 | refine below_set ?_ GE263.out) | exact HB.out)) hb); clear BK263; clear HB; have HO267 := n0_; have BK263 := n1_; have HB := n2_; clear n0_ n1_ n2_; (try clear hb); (try clear hb2); (try clear hk); (try clear hi); (try clear ho0)))
    go_ret2
    exact ⟨_, by first | rfl | (simp [errW_none, errW_some] <;> rfl) | (simp [*, errW_none, errW_some] <;> rfl), by (with_reducible repeat (first | apply Kd.S_alloc | apply Kd.S_drewN | apply Kd.S_drew)); exact HO267.out, by repeat (first | (with_reducible first | exact HB.out | apply below_alloc | apply pw_below_drewN | apply below_drew1 | refine below_set ?_ GE263.out) | exact HB.out)⟩
  · replace c4 := Bool.eq_false_iff.mpr c4
    subst c4
    have H1 : (some (([] : List (List Int)), false)) = some (r1, r2) := by rw [if_neg (show ¬ (false = true) by decide)] at H; exact H
    clear H
    have H := H1
    clear H1
    simp only [Option.some.injEq, Prod.mk.injEq] at H
    obtain ⟨rfl, rfl⟩ := H
    go_enter Try.func28, Try.ntmps28
    go_wp2_with (first | ((with_reducible refine gate_dst (N := 2) rfl ?_); refine box_event ?hg (N := 2) ?hd (cs := #[.int .i64 a0_0, .int .i64 a0_1, .int .i64 a0_2, .int .i64 a0_3, .bool a0_4]) (t := 31) ?hr ?_; (case hd => rfl); (case hg => rfl); (case hr => first | (go_simp; done) | (go_simp; rfl)); intro gb263 hg w11 hbox hb; have n0_ := Aside0.mk (below_step (by repeat (first | (with_reducible first | exact HB.out | apply below_alloc | apply pw_below_drewN | apply below_drew1) | exact HB.out)) hb); have n1_ := Aside0.mk (hbox); have n2_ := Aside0.mk ((by rw [hg]; exact (below_size (by repeat (first | (with_reducible first | exact HB.out | apply below_alloc | apply pw_below_drewN | apply below_drew1) | exact HB.out))) : w.heap.size ≤ gb263)); have n3_ := Aside0.mk ((by rw [hg]; exact (below_size (by repeat (first | (with_reducible first | exact HB.out | apply below_alloc | apply pw_below_drewN | apply below_drew1) | exact HB.out))) : w.heap.size ≤ gb263)); clear HB; have HB := n0_; have BK263 := n1_; have GW263 := n2_; have GE263 := n3_; clear n0_ n1_ n2_ n3_; clear hb hbox hg; have hcz12_0 : w11.cell? ⟨gb263, 0, none⟩ = some (.int .i64 a0_0) := (blk_cell BK263.out 0).trans rfl; have hcz12_1 : w11.cell? ⟨gb263, 1, none⟩ = some (.int .i64 a0_1) := (blk_cell BK263.out 1).trans rfl; have hcz12_2 : w11.cell? ⟨gb263, 2, none⟩ = some (.int .i64 a0_2) := (blk_cell BK263.out 2).trans rfl; have hcz12_3 : w11.cell? ⟨gb263, 3, none⟩ = some (.int .i64 a0_3) := (blk_cell BK263.out 3).trans rfl; have hcz12_4 : w11.cell? ⟨gb263, 4, none⟩ = some (.bool a0_4) := (blk_cell BK263.out 4).trans rfl; have hfz12_0 := blk_frozen BK263.out 0; have hfz12_1 := blk_frozen BK263.out 1; have hfz12_2 := blk_frozen BK263.out 2; have hfz12_3 := blk_frozen BK263.out 3; have hfz12_4 := blk_frozen BK263.out 4) | ((with_reducible refine gate_callee (f := 66) rfl ?_); refine goesL_ (some 8) rfl rfl Try.func66 (by kernel_rfl) rfl #[.agg #[.int .i64 a0_0, .int .i64 a0_1, .int .i64 a0_2, .int .i64 a0_3, .bool a0_4], .int .i64 a1] rfl (by (try simp only [List.map_toArray, List.map_cons, List.map_nil]); first | done | rfl | (simp only [List.length_drop, List.length_take]; rfl)) ?_; (with_reducible refine (impl_First_isScanned.calls a0_0 a0_1 a0_2 a0_3 a0_4 a1 false _ A3.out).mono ?_); rintro e w13 ⟨rfl, hb⟩; refine ⟨_, rfl, ?_⟩; have n0_ := Aside0.mk (blk_below (g := gb263) (o := .cells #[.int .i64 a0_0, .int .i64 a0_1, .int .i64 a0_2, .int .i64 a0_3, .bool a0_4] 31 (0, 0)) (by (with_reducible repeat (first | refine blk_drewN ?_ _ | refine blk_drew ?_ | refine blk_alloc ?_ _)); exact BK263.out) hb); have n1_ := Aside0.mk (below_step (by repeat (first | (with_reducible first | exact HB.out | apply below_alloc | apply pw_below_drewN | apply below_drew1 | refine below_set ?_ GE263.out) | exact HB.out)) hb); clear BK263; clear HB; have BK263 := n0_; have HB := n1_; clear n0_ n1_; (try clear hb); (try clear hb2); (try clear hk); (try clear hi)))
    go_ret2
    exact ⟨_, by first | rfl | (simp [errW_none, errW_some] <;> rfl) | (simp [*, errW_none, errW_some] <;> rfl), by first | exact Kd.S_nil _ _ _ _ _ | exact Kd.N_nil _ _ _ _ _ | exact Kd.V_nil _ _ _ _ _ | exact Kd.Q_nil _ _ _ _ _ | exact Kd.R_nil _ _ _ _ _, by repeat (first | (with_reducible first | exact HB.out | apply below_alloc | apply pw_below_drewN | apply below_drew1 | refine below_set ?_ GE263.out) | exact HB.out)⟩

/-! ### laws_eqIntS: function 17 -/
def laws_eqIntS.l0 : Nat → List Int → List Int → Int → Option (Bool)
  | 0, _, _, _ => none
  | k + 1, x0, x1, x5 => if x5 < (x0.length : Int) then (if 0 ≤ x5 then (if x5 < (x1.length : Int) then (if (rd x0 x5) = (rd x1 x5) then (laws_eqIntS.l0 k x0 x1 (wrap64 (x5 + 1))) else (some false)) else (none)) else (none)) else (some true)
def laws_eqIntS.f (k : Nat) (l0 : List Int) (l1 : List Int) : Option (Bool) := if (l0.length : Int) = (l1.length : Int) then (laws_eqIntS.l0 k l0 l1 0) else (some false)
theorem laws_eqIntS.mono_l : ∀ k, (∀ y0 y1 y2, LeO (laws_eqIntS.l0 k y0 y1 y2) (laws_eqIntS.l0 (k + 1) y0 y1 y2))
  | 0 => fun _ _ _ r h => by simp [laws_eqIntS.l0] at h
  | k + 1 => by
    have ih0 := laws_eqIntS.mono_l k
    · intro y0 y1 y2
      unfold laws_eqIntS.l0
      repeat' first
      | (with_reducible exact ih0 _ _ _)
      | (with_reducible exact LeO.refl _)
      | (with_reducible exact LeO.none _)
      | (with_reducible refine LeO.ite ?_ ?_)
      | (with_reducible refine LeO.bind ?_ (fun _ => ?_))
      | exact ih0 _ _ _
      | exact LeO.none _
      | refine LeO.ite ?_ ?_
      | refine LeO.bind ?_ (fun _ => ?_)
theorem laws_eqIntS.mono : ∀ a0 a1 k, LeO (laws_eqIntS.f k a0 a1) (laws_eqIntS.f (k + 1) a0 a1) := by
  intro a0 a1 k
  have ih0 := laws_eqIntS.mono_l k
  unfold laws_eqIntS.f
  repeat' first
      | (with_reducible exact ih0 _ _ _)
      | (with_reducible exact LeO.refl _)
      | (with_reducible exact LeO.none _)
      | (with_reducible refine LeO.ite ?_ ?_)
      | (with_reducible refine LeO.bind ?_ (fun _ => ?_))
      | exact ih0 _ _ _
      | exact LeO.none _
      | refine LeO.ite ?_ ?_
      | refine LeO.bind ?_ (fun _ => ?_)
set_option maxHeartbeats 8000000 in
set_option maxRecDepth 100000 in
theorem laws_eqIntS.calls (k : Nat) (A0 : Option Addr) (c0 : Nat) (l0 : List Int) (A1 : Option Addr) (c1 : Nat) (l1 : List Int) (r : Bool) (w : World) (hr0 : Kd.C (Kd.int .i64) w A0 l0.length l0) (hc0 : l0.length ≤ c0) (hr1 : Kd.C (Kd.int .i64) w A1 l1.length l1) (hc1 : l1.length ≤ c1) (h : laws_eqIntS.f k l0 l1 = some r) :
    Calls Try.prog 17 #[.slice A0 l0.length c0, .slice A1 l1.length c1] w fun e w' => e = .returned (.bool r) ∧ Drawn0 w w' := by
  have HR0 := Aside0.mk hr0
  have HC0 := Aside0.mk hc0
  clear hr0 hc0
  have HR1 := Aside0.mk hr1
  have HC1 := Aside0.mk hc1
  clear hr1 hc1
  have H : (if (l0.length : Int) = (l1.length : Int) then (laws_eqIntS.l0 k l0 l1 0) else (some false)) = some r := h
  clear h
  by_cases c3 : (l0.length : Int) = (l1.length : Int)
  · rw [if_pos c3] at H
    have c3b0 : ((l0.length : Int) == (l1.length : Int)) = true := beq_iff_eq.mpr c3
    have c3b1 : ((l0.length : Int) != (l1.length : Int)) = false := bne_eq_false_iff_eq.mpr c3
    have c3b2 : (l0.length == l1.length) = true := by first | simpa using c3 | (simp at c3 ⊢; omega)
    clear c3
    have H' := Aside0.mk H
    clear H
    go_enter Try.func17, Try.ntmps17
    go_wp2
    repeat (go_quiet (fail); try go_wp2)
    go_loopg [5] k (fun kq v5 w' => ∃ (x5_1 : Int), v5 = .int .i64 x5_1 ∧ Aside0 (laws_eqIntS.l0 kq l0 l1 x5_1 = some r) ∧ Aside0 (kq ≤ k) ∧ Drawn0 w w')
    case atStart => exact ⟨(0), (by first | rfl | (simp; done) | (simp [*]; done)), H', ⟨Nat.le_refl _⟩, by repeat (first | exact Drawn0.refl _ | apply Drawn0.step)⟩
    case round =>
      clear H'
      try clear c1
      try clear p2
      try clear c3
      try clear c3b0
      try clear c3b1
      try clear c3b2
      obtain ⟨x5_1, rfl, HA, HK1, ⟨m1, rfl⟩⟩ := hrel
      cases gk with
      | zero => exact absurd HA.out (by simp [laws_eqIntS.l0])
      | succ k1 =>
        have H := HA.out
        clear HA
        simp only [laws_eqIntS.l0] at H
        by_cases c4 : x5_1 < (l0.length : Int)
        · rw [if_pos c4] at H
          have c4b0 : decide (x5_1 < (l0.length : Int)) = true := decide_eq_true c4
          clear c4
          by_cases c5 : 0 ≤ x5_1
          · rw [if_pos c5] at H
            have c5b0 : decide (0 ≤ x5_1) = true := decide_eq_true c5
            clear c5
            by_cases c6 : x5_1 < (l1.length : Int)
            · rw [if_pos c6] at H
              have c6b0 : decide (x5_1 < (l1.length : Int)) = true := decide_eq_true c6
              clear c6
              by_cases c7 : (rd l0 x5_1) = (rd l1 x5_1)
              · rw [if_pos c7] at H
                have c7b0 : ((rd l0 x5_1) == (rd l1 x5_1)) = true := beq_iff_eq.mpr c7
                have c7b1 : ((rd l0 x5_1) != (rd l1 x5_1)) = false := bne_eq_false_iff_eq.mpr c7
                clear c7
                have H' := Aside0.mk H
                clear H
                have p268 : 0 ≤ (x5_1 : Int) := of_decide_eq_true (by first | (with_reducible assumption) | assumption)
                have q268 : x5_1 < (l0.length : Int) := of_decide_eq_true (by first | (with_reducible assumption) | assumption)
                obtain ⟨ad268, e268, hx268_0⟩ := Kd.at_int HR0.out x5_1 p268 q268
                cases e268
                replace p268 := eq_true p268
                replace q268 := eq_true q268
                have p269 : 0 ≤ (x5_1 : Int) := of_decide_eq_true (by first | (with_reducible assumption) | assumption)
                have q269 : x5_1 < (l1.length : Int) := of_decide_eq_true (by first | (with_reducible assumption) | assumption)
                obtain ⟨ad269, e269, hx269_0⟩ := Kd.at_int HR1.out x5_1 p269 q269
                cases e269
                replace p269 := eq_true p269
                replace q269 := eq_true q269
                go_wp2
                repeat (go_quiet (fail); try go_wp2)
                go_roundg k1
                case measure => have := HK1.out; omega
                case rel => exact ⟨(wrap64 (x5_1 + 1)), (by first | rfl | (simp; done) | (simp [*]; done)), H', ⟨by have := HK1.out; omega⟩, by repeat (first | exact Drawn0.refl _ | apply Drawn0.step)⟩
              · rw [if_neg c7] at H
                have c7b0 : ((rd l0 x5_1) == (rd l1 x5_1)) = false := beq_eq_false_iff_ne.mpr c7
                have c7b1 : ((rd l0 x5_1) != (rd l1 x5_1)) = true := bne_iff_ne.mpr c7
                obtain rfl := Option.some.inj H
                have p268 : 0 ≤ (x5_1 : Int) := of_decide_eq_true (by first | (with_reducible assumption) | assumption)
                have q268 : x5_1 < (l0.length : Int) := of_decide_eq_true (by first | (with_reducible assumption) | assumption)
                obtain ⟨ad268, e268, hx268_0⟩ := Kd.at_int HR0.out x5_1 p268 q268
                cases e268
                replace p268 := eq_true p268
                replace q268 := eq_true q268
                have p269 : 0 ≤ (x5_1 : Int) := of_decide_eq_true (by first | (with_reducible assumption) | assumption)
                have q269 : x5_1 < (l1.length : Int) := of_decide_eq_true (by first | (with_reducible assumption) | assumption)
                obtain ⟨ad269, e269, hx269_0⟩ := Kd.at_int HR1.out x5_1 p269 q269
                cases e269
                replace p269 := eq_true p269
                replace q269 := eq_true q269
                go_wp2
                repeat (go_quiet (fail); try go_wp2)
                go_ret
                exact ⟨by first | rfl | (simp; done) | (simp [*]; done), by repeat (first | exact Drawn0.refl _ | apply Drawn0.step)⟩
            · rw [if_neg c6] at H
              exact absurd H (by simp)
          · rw [if_neg c5] at H
            exact absurd H (by simp)
        · rw [if_neg c4] at H
          have c4b0 : decide (x5_1 < (l0.length : Int)) = false := decide_eq_false c4
          clear c4
          obtain rfl := Option.some.inj H
          go_wp2
          repeat (go_quiet (fail); try go_wp2)
          go_ret
          exact ⟨by first | rfl | (simp; done) | (simp [*]; done), by repeat (first | exact Drawn0.refl _ | apply Drawn0.step)⟩
  · rw [if_neg c3] at H
    have c3b0 : ((l0.length : Int) == (l1.length : Int)) = false := beq_eq_false_iff_ne.mpr c3
    have c3b1 : ((l0.length : Int) != (l1.length : Int)) = true := bne_iff_ne.mpr c3
    have c3b2 : (l0.length == l1.length) = false := by first | simpa using c3 | (simp at c3 ⊢; omega)
    obtain rfl := Option.some.inj H
    go_enter Try.func17, Try.ntmps17
    go_wp2
    repeat (go_quiet (fail); try go_wp2)
    go_ret
    exact ⟨by first | rfl | (simp; done) | (simp [*]; done), by repeat (first | exact Drawn0.refl _ | apply Drawn0.step)⟩

/-! ### laws_eqIntSS: function 29 -/
def laws_eqIntSS.l0 : Nat → List (List Int) → List (List Int) → Int → Option (Bool)
  | 0, _, _, _ => none
  | k + 1, x0, x1, x5 => if x5 < (x0.length : Int) then (if 0 ≤ x5 then (if x5 < (x1.length : Int) then ((laws_eqIntS.f k (rd_L1 x0 x5) (rd_L1 x1 x5)).bind fun t272 => (if t272 = true then (laws_eqIntSS.l0 k x0 x1 (wrap64 (x5 + 1))) else (some false))) else (none)) else (none)) else (some true)
def laws_eqIntSS.f (k : Nat) (l0 : List (List Int)) (l1 : List (List Int)) : Option (Bool) := if (l0.length : Int) = (l1.length : Int) then (laws_eqIntSS.l0 k l0 l1 0) else (some false)
theorem laws_eqIntSS.mono_l : ∀ k, (∀ y0 y1 y2, LeO (laws_eqIntSS.l0 k y0 y1 y2) (laws_eqIntSS.l0 (k + 1) y0 y1 y2))
  | 0 => fun _ _ _ r h => by simp [laws_eqIntSS.l0] at h
  | k + 1 => by
    have ih0 := laws_eqIntSS.mono_l k
    · intro y0 y1 y2
      unfold laws_eqIntSS.l0
      repeat' first
      | (with_reducible exact ih0 _ _ _)
      | (with_reducible exact laws_eqIntS.mono _ _ _)
      | (with_reducible exact LeO.refl _)
      | (with_reducible exact LeO.none _)
      | (with_reducible refine LeO.ite ?_ ?_)
      | (with_reducible refine LeO.bind ?_ (fun _ => ?_))
      | exact ih0 _ _ _
      | exact laws_eqIntS.mono _ _ _
      | exact LeO.none _
      | refine LeO.ite ?_ ?_
      | refine LeO.bind ?_ (fun _ => ?_)
theorem laws_eqIntSS.mono : ∀ a0 a1 k, LeO (laws_eqIntSS.f k a0 a1) (laws_eqIntSS.f (k + 1) a0 a1) := by
  intro a0 a1 k
  have ih0 := laws_eqIntSS.mono_l k
  unfold laws_eqIntSS.f
  repeat' first
      | (with_reducible exact ih0 _ _ _)
      | (with_reducible exact laws_eqIntS.mono _ _ _)
      | (with_reducible exact LeO.refl _)
      | (with_reducible exact LeO.none _)
      | (with_reducible refine LeO.ite ?_ ?_)
      | (with_reducible refine LeO.bind ?_ (fun _ => ?_))
      | exact ih0 _ _ _
      | exact laws_eqIntS.mono _ _ _
      | exact LeO.none _
      | refine LeO.ite ?_ ?_
      | refine LeO.bind ?_ (fun _ => ?_)
set_option maxHeartbeats 8000000 in
set_option maxRecDepth 100000 in
theorem laws_eqIntSS.calls (k : Nat) (A0 : Option Addr) (c0 : Nat) (l0 : List (List Int)) (A1 : Option Addr) (c1 : Nat) (l1 : List (List Int)) (r : Bool) (w : World) (hr0 : Kd.C (Kd.slice 3 (Kd.int .i64)) w A0 l0.length l0) (hc0 : l0.length ≤ c0) (hr1 : Kd.C (Kd.slice 3 (Kd.int .i64)) w A1 l1.length l1) (hc1 : l1.length ≤ c1) (h : laws_eqIntSS.f k l0 l1 = some r) :
    Calls Try.prog 29 #[.slice A0 l0.length c0, .slice A1 l1.length c1] w fun e w' => e = .returned (.bool r) ∧ Drawn0 w w' := by
  have HR0 := Aside0.mk hr0
  have HC0 := Aside0.mk hc0
  clear hr0 hc0
  have HR1 := Aside0.mk hr1
  have HC1 := Aside0.mk hc1
  clear hr1 hc1
  have H : (if (l0.length : Int) = (l1.length : Int) then (laws_eqIntSS.l0 k l0 l1 0) else (some false)) = some r := h
  clear h
  by_cases c3 : (l0.length : Int) = (l1.length : Int)
  · rw [if_pos c3] at H
    have c3b0 : ((l0.length : Int) == (l1.length : Int)) = true := beq_iff_eq.mpr c3
    have c3b1 : ((l0.length : Int) != (l1.length : Int)) = false := bne_eq_false_iff_eq.mpr c3
    have c3b2 : (l0.length == l1.length) = true := by first | simpa using c3 | (simp at c3 ⊢; omega)
    clear c3
    have H' := Aside0.mk H
    clear H
    go_enter Try.func29, Try.ntmps29
    go_wp2
    repeat (go_quiet (fail); try go_wp2)
    go_loopg [5] k (fun kq v5 w' => ∃ (x5_1 : Int), v5 = .int .i64 x5_1 ∧ Aside0 (laws_eqIntSS.l0 kq l0 l1 x5_1 = some r) ∧ Aside0 (kq ≤ k) ∧ Drawn0 w w')
    case atStart => exact ⟨(0), (by first | rfl | (simp; done) | (simp [*]; done)), H', ⟨Nat.le_refl _⟩, by repeat (first | exact Drawn0.refl _ | apply Drawn0.step)⟩
    case round =>
      clear H'
      try clear c1
      try clear c2
      try clear p2
      try clear c3
      try clear c3b0
      try clear c3b1
      try clear c3b2
      obtain ⟨x5_1, rfl, HA, HK1, ⟨m1, rfl⟩⟩ := hrel
      cases gk with
      | zero => exact absurd HA.out (by simp [laws_eqIntSS.l0])
      | succ k1 =>
        have H := HA.out
        clear HA
        simp only [laws_eqIntSS.l0] at H
        by_cases c4 : x5_1 < (l0.length : Int)
        · rw [if_pos c4] at H
          have c4b0 : decide (x5_1 < (l0.length : Int)) = true := decide_eq_true c4
          clear c4
          by_cases c5 : 0 ≤ x5_1
          · rw [if_pos c5] at H
            have c5b0 : decide (0 ≤ x5_1) = true := decide_eq_true c5
            clear c5
            by_cases c6 : x5_1 < (l1.length : Int)
            · rw [if_pos c6] at H
              have c6b0 : decide (x5_1 < (l1.length : Int)) = true := decide_eq_true c6
              clear c6
              replace H := Option.bind_eq_some_iff.mp H
              obtain ⟨t272, A70, H⟩ := H
              replace H : (if t272 = true then (laws_eqIntSS.l0 k1 l0 l1 (wrap64 (x5_1 + 1))) else (some false)) = some r := H
              have A7 := Aside0.mk A70
              clear A70
              by_cases c8 : t272 = true
              · subst c8
                have H1 : (laws_eqIntSS.l0 k1 l0 l1 (wrap64 (x5_1 + 1))) = some r := by rw [if_pos rfl] at H; exact H
                clear H
                have H := H1
                clear H1
                have H' := Aside0.mk H
                clear H
                have p270 : 0 ≤ (x5_1 : Int) := of_decide_eq_true (by first | (with_reducible assumption) | assumption)
                have q270 : x5_1 < (l0.length : Int) := of_decide_eq_true (by first | (with_reducible assumption) | assumption)
                obtain ⟨ad270, A270_0, c270_0, e270, hx270_0, hl270_0, hi270_0⟩ := at_L1 HR0.out x5_1 p270 q270
                cases e270
                have HR270_0 := Aside0.mk hi270_0
                have HC270_0 := Aside0.mk hl270_0
                clear hi270_0 hl270_0
                replace p270 := eq_true p270
                replace q270 := eq_true q270
                have p271 : 0 ≤ (x5_1 : Int) := of_decide_eq_true (by first | (with_reducible assumption) | assumption)
                have q271 : x5_1 < (l1.length : Int) := of_decide_eq_true (by first | (with_reducible assumption) | assumption)
                obtain ⟨ad271, A271_0, c271_0, e271, hx271_0, hl271_0, hi271_0⟩ := at_L1 HR1.out x5_1 p271 q271
                cases e271
                have HR271_0 := Aside0.mk hi271_0
                have HC271_0 := Aside0.mk hl271_0
                clear hi271_0 hl271_0
                replace p271 := eq_true p271
                replace q271 := eq_true q271
                go_wp2_with (first | (go_at_call 17; (with_reducible refine (laws_eqIntS.calls k1 _ _ (rd_L1 l0 x5_1) _ _ (rd_L1 l1 x5_1) true _ ?side1 ?side2 ?side3 ?side4 A7.out).mono ?_); (case side1 => repeat (first | exact HR270_0.out | (with_reducible refine Kd.C_alloc ?_ _) | (with_reducible refine Kd.C_drewN ?_ _) | (with_reducible refine Kd.C_drew ?_))); (case side2 => exact HC270_0.out); (case side3 => repeat (first | exact HR271_0.out | (with_reducible refine Kd.C_alloc ?_ _) | (with_reducible refine Kd.C_drewN ?_ _) | (with_reducible refine Kd.C_drew ?_))); (case side4 => exact HC271_0.out); rintro e w' ⟨rfl, ⟨nd, rfl⟩⟩; (try first | exact ⟨rfl, _, World.drewN_drewN _ _ _⟩ | exact ⟨rfl, _, Eq.trans (World.drewN_drewN _ _ _) (congrArg (World.drewN _) (Nat.add_assoc _ _ _))⟩)))
                repeat (go_quiet (first | (go_at_call 17; (with_reducible refine (laws_eqIntS.calls k1 _ _ (rd_L1 l0 x5_1) _ _ (rd_L1 l1 x5_1) true _ ?side1 ?side2 ?side3 ?side4 A7.out).mono ?_); (case side1 => repeat (first | exact HR270_0.out | (with_reducible refine Kd.C_alloc ?_ _) | (with_reducible refine Kd.C_drewN ?_ _) | (with_reducible refine Kd.C_drew ?_))); (case side2 => exact HC270_0.out); (case side3 => repeat (first | exact HR271_0.out | (with_reducible refine Kd.C_alloc ?_ _) | (with_reducible refine Kd.C_drewN ?_ _) | (with_reducible refine Kd.C_drew ?_))); (case side4 => exact HC271_0.out); rintro e w' ⟨rfl, ⟨nd, rfl⟩⟩; (try first | exact ⟨rfl, _, World.drewN_drewN _ _ _⟩ | exact ⟨rfl, _, Eq.trans (World.drewN_drewN _ _ _) (congrArg (World.drewN _) (Nat.add_assoc _ _ _))⟩))); try go_wp2_with (first | (go_at_call 17; (with_reducible refine (laws_eqIntS.calls k1 _ _ (rd_L1 l0 x5_1) _ _ (rd_L1 l1 x5_1) true _ ?side1 ?side2 ?side3 ?side4 A7.out).mono ?_); (case side1 => repeat (first | exact HR270_0.out | (with_reducible refine Kd.C_alloc ?_ _) | (with_reducible refine Kd.C_drewN ?_ _) | (with_reducible refine Kd.C_drew ?_))); (case side2 => exact HC270_0.out); (case side3 => repeat (first | exact HR271_0.out | (with_reducible refine Kd.C_alloc ?_ _) | (with_reducible refine Kd.C_drewN ?_ _) | (with_reducible refine Kd.C_drew ?_))); (case side4 => exact HC271_0.out); rintro e w' ⟨rfl, ⟨nd, rfl⟩⟩; (try first | exact ⟨rfl, _, World.drewN_drewN _ _ _⟩ | exact ⟨rfl, _, Eq.trans (World.drewN_drewN _ _ _) (congrArg (World.drewN _) (Nat.add_assoc _ _ _))⟩))))
                go_roundg k1
                case measure => have := HK1.out; omega
                case rel => exact ⟨(wrap64 (x5_1 + 1)), (by first | rfl | (simp; done) | (simp [*]; done)), H', ⟨by have := HK1.out; omega⟩, by repeat (first | exact Drawn0.refl _ | apply Drawn0.step)⟩
              · replace c8 := Bool.eq_false_iff.mpr c8
                subst c8
                have H1 : (some false) = some r := by rw [if_neg (show ¬ (false = true) by decide)] at H; exact H
                clear H
                have H := H1
                clear H1
                obtain rfl := Option.some.inj H
                have p270 : 0 ≤ (x5_1 : Int) := of_decide_eq_true (by first | (with_reducible assumption) | assumption)
                have q270 : x5_1 < (l0.length : Int) := of_decide_eq_true (by first | (with_reducible assumption) | assumption)
                obtain ⟨ad270, A270_0, c270_0, e270, hx270_0, hl270_0, hi270_0⟩ := at_L1 HR0.out x5_1 p270 q270
                cases e270
                have HR270_0 := Aside0.mk hi270_0
                have HC270_0 := Aside0.mk hl270_0
                clear hi270_0 hl270_0
                replace p270 := eq_true p270
                replace q270 := eq_true q270
                have p271 : 0 ≤ (x5_1 : Int) := of_decide_eq_true (by first | (with_reducible assumption) | assumption)
                have q271 : x5_1 < (l1.length : Int) := of_decide_eq_true (by first | (with_reducible assumption) | assumption)
                obtain ⟨ad271, A271_0, c271_0, e271, hx271_0, hl271_0, hi271_0⟩ := at_L1 HR1.out x5_1 p271 q271
                cases e271
                have HR271_0 := Aside0.mk hi271_0
                have HC271_0 := Aside0.mk hl271_0
                clear hi271_0 hl271_0
                replace p271 := eq_true p271
                replace q271 := eq_true q271
                go_wp2_with (first | (go_at_call 17; (with_reducible refine (laws_eqIntS.calls k1 _ _ (rd_L1 l0 x5_1) _ _ (rd_L1 l1 x5_1) false _ ?side1 ?side2 ?side3 ?side4 A7.out).mono ?_); (case side1 => repeat (first | exact HR270_0.out | (with_reducible refine Kd.C_alloc ?_ _) | (with_reducible refine Kd.C_drewN ?_ _) | (with_reducible refine Kd.C_drew ?_))); (case side2 => exact HC270_0.out); (case side3 => repeat (first | exact HR271_0.out | (with_reducible refine Kd.C_alloc ?_ _) | (with_reducible refine Kd.C_drewN ?_ _) | (with_reducible refine Kd.C_drew ?_))); (case side4 => exact HC271_0.out); rintro e w' ⟨rfl, ⟨nd, rfl⟩⟩; (try first | exact ⟨rfl, _, World.drewN_drewN _ _ _⟩ | exact ⟨rfl, _, Eq.trans (World.drewN_drewN _ _ _) (congrArg (World.drewN _) (Nat.add_assoc _ _ _))⟩)))
                repeat (go_quiet (first | (go_at_call 17; (with_reducible refine (laws_eqIntS.calls k1 _ _ (rd_L1 l0 x5_1) _ _ (rd_L1 l1 x5_1) false _ ?side1 ?side2 ?side3 ?side4 A7.out).mono ?_); (case side1 => repeat (first | exact HR270_0.out | (with_reducible refine Kd.C_alloc ?_ _) | (with_reducible refine Kd.C_drewN ?_ _) | (with_reducible refine Kd.C_drew ?_))); (case side2 => exact HC270_0.out); (case side3 => repeat (first | exact HR271_0.out | (with_reducible refine Kd.C_alloc ?_ _) | (with_reducible refine Kd.C_drewN ?_ _) | (with_reducible refine Kd.C_drew ?_))); (case side4 => exact HC271_0.out); rintro e w' ⟨rfl, ⟨nd, rfl⟩⟩; (try first | exact ⟨rfl, _, World.drewN_drewN _ _ _⟩ | exact ⟨rfl, _, Eq.trans (World.drewN_drewN _ _ _) (congrArg (World.drewN _) (Nat.add_assoc _ _ _))⟩))); try go_wp2_with (first | (go_at_call 17; (with_reducible refine (laws_eqIntS.calls k1 _ _ (rd_L1 l0 x5_1) _ _ (rd_L1 l1 x5_1) false _ ?side1 ?side2 ?side3 ?side4 A7.out).mono ?_); (case side1 => repeat (first | exact HR270_0.out | (with_reducible refine Kd.C_alloc ?_ _) | (with_reducible refine Kd.C_drewN ?_ _) | (with_reducible refine Kd.C_drew ?_))); (case side2 => exact HC270_0.out); (case side3 => repeat (first | exact HR271_0.out | (with_reducible refine Kd.C_alloc ?_ _) | (with_reducible refine Kd.C_drewN ?_ _) | (with_reducible refine Kd.C_drew ?_))); (case side4 => exact HC271_0.out); rintro e w' ⟨rfl, ⟨nd, rfl⟩⟩; (try first | exact ⟨rfl, _, World.drewN_drewN _ _ _⟩ | exact ⟨rfl, _, Eq.trans (World.drewN_drewN _ _ _) (congrArg (World.drewN _) (Nat.add_assoc _ _ _))⟩))))
                go_ret
                exact ⟨by first | rfl | (simp; done) | (simp [*]; done), by repeat (first | exact Drawn0.refl _ | apply Drawn0.step)⟩
            · rw [if_neg c6] at H
              exact absurd H (by simp)
          · rw [if_neg c5] at H
            exact absurd H (by simp)
        · rw [if_neg c4] at H
          have c4b0 : decide (x5_1 < (l0.length : Int)) = false := decide_eq_false c4
          clear c4
          obtain rfl := Option.some.inj H
          go_wp2
          repeat (go_quiet (fail); try go_wp2)
          go_ret
          exact ⟨by first | rfl | (simp; done) | (simp [*]; done), by repeat (first | exact Drawn0.refl _ | apply Drawn0.step)⟩
  · rw [if_neg c3] at H
    have c3b0 : ((l0.length : Int) == (l1.length : Int)) = false := beq_eq_false_iff_ne.mpr c3
    have c3b1 : ((l0.length : Int) != (l1.length : Int)) = true := bne_iff_ne.mpr c3
    have c3b2 : (l0.length == l1.length) = false := by first | simpa using c3 | (simp at c3 ⊢; omega)
    obtain rfl := Option.some.inj H
    go_enter Try.func29, Try.ntmps29
    go_wp2
    repeat (go_quiet (fail); try go_wp2)
    go_ret
    exact ⟨by first | rfl | (simp; done) | (simp [*]; done), by repeat (first | exact Drawn0.refl _ | apply Drawn0.step)⟩

/-! ### laws_markIntS: function 23 -/
def laws_markIntS.l0 : Nat → List Int → Int → Int → Option (Int × List Int)
  | 0, _, _, _ => none
  | k + 1, x0, x1, x5 => if x5 < (x0.length : Int) then (if 0 ≤ x5 then (laws_markIntS.l0 k (x0.set (x5 : Int).toNat x1) (wrap64 (x1 + 1)) (wrap64 (x5 + 1))) else (none)) else (some (x1, x0))
def laws_markIntS.f (k : Nat) (l0 : List Int) (a1 : Int) : Option (Int × List Int) := laws_markIntS.l0 k l0 a1 0
theorem laws_markIntS.mono_l : ∀ k, (∀ y0 y1 y2, LeO (laws_markIntS.l0 k y0 y1 y2) (laws_markIntS.l0 (k + 1) y0 y1 y2))
  | 0 => fun _ _ _ r h => by simp [laws_markIntS.l0] at h
  | k + 1 => by
    have ih0 := laws_markIntS.mono_l k
    · intro y0 y1 y2
      unfold laws_markIntS.l0
      repeat' first
      | (with_reducible exact ih0 _ _ _)
      | (with_reducible exact LeO.refl _)
      | (with_reducible exact LeO.none _)
      | (with_reducible refine LeO.ite ?_ ?_)
      | (with_reducible refine LeO.bind ?_ (fun _ => ?_))
      | exact ih0 _ _ _
      | exact LeO.none _
      | refine LeO.ite ?_ ?_
      | refine LeO.bind ?_ (fun _ => ?_)
theorem laws_markIntS.mono : ∀ a0 a1 k, LeO (laws_markIntS.f k a0 a1) (laws_markIntS.f (k + 1) a0 a1) := by
  intro a0 a1 k
  have ih0 := laws_markIntS.mono_l k
  unfold laws_markIntS.f
  repeat' first
      | (with_reducible exact ih0 _ _ _)
      | (with_reducible exact LeO.refl _)
      | (with_reducible exact LeO.none _)
      | (with_reducible refine LeO.ite ?_ ?_)
      | (with_reducible refine LeO.bind ?_ (fun _ => ?_))
      | exact ih0 _ _ _
      | exact LeO.none _
      | refine LeO.ite ?_ ?_
      | refine LeO.bind ?_ (fun _ => ?_)
set_option maxHeartbeats 8000000 in
set_option maxRecDepth 100000 in
theorem laws_markIntS.calls (k : Nat) (P0_ : Nat → Prop) (u9000_ : Value) (l0 : List Int) (a1 : Int) (r1 : Int) (r2 : List Int) (w0 w : World) (hB : Below w0.heap.size w0 w) (ho0 : Kd.R (Kd.int .i64) 3 w w0.heap.size P0_ u9000_ l0) (h : laws_markIntS.f k l0 a1 = some (r1, r2)) :
    Calls Try.prog 23 #[u9000_, .int .i64 a1] w fun e w' => e = .returned (.int .i64 r1) ∧ Kd.R (Kd.int .i64) 3 w' w0.heap.size (fun k_ => (P0_ k_ ∨ w.heap.size ≤ k_)) u9000_ r2 ∧ Below w0.heap.size w0 w' ∧ Kept w w' (fun k_ => P0_ k_) := by
  have HO0 := Aside0.mk (show Kd.R (Kd.int .i64) 3 w w0.heap.size (fun k_ => (P0_ k_ ∨ w.heap.size ≤ k_)) u9000_ l0 from Kd.R_mono ho0 (fun k_ hk => (.inl hk)))
  have HK := Aside0.mk (Kept.refl w (fun k_ => P0_ k_))
  have HW0 := Aside0.mk hB.size
  have HB := Aside0.mk hB
  clear hB
  have H : (laws_markIntS.l0 k l0 a1 0) = some (r1, r2) := h
  clear h
  have H' := Aside0.mk H
  clear H
  go_enter Try.func23, Try.ntmps23
  go_wp2
  go_loopg [1, 5] k (fun kq v1 v5 w' => ∃ (x0_1 : List Int) (x1_1 : Int) (x5_1 : Int), v1 = .int .i64 x1_1 ∧ v5 = .int .i64 x5_1 ∧ Aside0 (laws_markIntS.l0 kq x0_1 x1_1 x5_1 = some (r1, r2)) ∧ Aside0 (kq ≤ k) ∧ Aside0 (Kd.R (Kd.int .i64) 3 w' w0.heap.size (fun k_ => (P0_ k_ ∨ w.heap.size ≤ k_)) u9000_ x0_1) ∧ Aside0 (Kept w w' (fun k_ => P0_ k_)) ∧ Aside0 (Below w0.heap.size w0 w'))
  case atStart => exact ⟨(l0), (a1), (0), (by first | rfl | (simp; done) | (simp [*]; done)), (by first | rfl | (simp; done) | (simp [*]; done)), H', ⟨Nat.le_refl _⟩, ⟨by (with_reducible repeat (first | apply Kd.R_alloc | apply Kd.R_drewN | apply Kd.R_drew)); exact HO0.out⟩, ⟨by repeat (first | (with_reducible first | exact HK.out | apply Kept.alloc | apply Kept.drewN | apply Kept.drew) | exact HK.out)⟩, ⟨by repeat (first | (with_reducible first | exact HB.out | apply below_alloc | apply pw_below_drewN | apply below_drew1) | exact HB.out)⟩⟩
  case round =>
    clear H'
    try clear c2
    try clear p2
    obtain ⟨x0_1, x1_1, x5_1, rfl, rfl, HA, HK1, HO_0, HK, HB⟩ := hrel
    cases gk with
    | zero => exact absurd HA.out (by simp [laws_markIntS.l0])
    | succ k1 =>
      have H := HA.out
      clear HA
      simp only [laws_markIntS.l0] at H
      by_cases c3 : x5_1 < (x0_1.length : Int)
      · rw [if_pos c3] at H
        have c3b0 : decide (x5_1 < (x0_1.length : Int)) = true := decide_eq_true c3
        clear c3
        by_cases c4 : 0 ≤ x5_1
        · rw [if_pos c4] at H
          have c4b0 : decide (0 ≤ x5_1) = true := decide_eq_true c4
          clear c4
          obtain ⟨y273, hy273⟩ : ∃ y_ : List Int, y_ = (x0_1.set (x5_1 : Int).toNat x1_1) := ⟨_, rfl⟩
          replace H : (laws_markIntS.l0 k1 y273 (wrap64 (x1_1 + 1)) (wrap64 (x5_1 + 1))) = some (r1, r2) := by first | (rw [hy273]; with_reducible exact H) | (have H2_ := (Option.bind_some _ _).symm.trans H; rw [hy273]; with_reducible exact H2_) | (have H2_ := (Option.bind_some _ _).symm.trans H; with_reducible exact H2_) | with_reducible exact H | (rw [hy273]; exact H) | exact H
          have Ny273 := Aside0.mk hy273
          clear hy273
          have H' := Aside0.mk H
          clear H
          obtain ⟨Ao6, co6, eo6⟩ := Kd.R_slice HO_0.out
          subst eo6
          have p5 : 0 ≤ (x5_1 : Int) := of_decide_eq_true (by first | (with_reducible assumption) | assumption)
          have q5 : (x5_1 : Int) < ((x0_1.length : Int) : Int) := of_decide_eq_true (by first | (with_reducible assumption) | assumption)
          obtain ⟨go5, co5, eo5, gb5, gl5, cl5, HG5⟩ := Kd.R_form HO_0.out (by omega)
          (first | cases eo5 | (injection eo5 with ea_ en_ ec_; (first | subst ea_ | (injection ea_ with ea_; subst ea_)); subst ec_; clear en_))
          have GB5 := Aside0.mk gb5
          have GG5 := Aside0.mk HG5
          clear gb5 gl5 HG5
          have HMgo5 := Aside0.mk (show (P0_ go5 ∨ w.heap.size ≤ go5) from (HO_0.out.1 _ rfl))
          obtain ⟨hx5_0, hf5_0⟩ := Kd.R_celln 0 HO_0.out (x5_1 : Int) p5 q5
          replace p5 := eq_true p5
          replace q5 := eq_true q5
          have HP7 := Kd.R_putg HO_0.out (x5_1 : Int) x1_1
          go_wp2_with (first | ((with_reducible refine gate_store (t := 3) (p := 15) rfl ?_); refine store_event (t := 3) (p := 15) (v := ?vo_w8) (w1 := (wr.setCell ⟨go5, (x5_1 : Int).toNat, none⟩ (.int .i64 x1_1))) ?hg ?ho ?hn ?hr ?_; (case ho => rfl); (case hg => rfl); (case hn => rfl); (case hr => first | (go_simp; done) | (go_simp; rfl)); intro w8 hw; have hg : wr.grownBy w8 (some go5) := (by rw [hw]; exact HP7.2); have hp_ : Kd.R (Kd.int .i64) 3 w8 w0.heap.size (fun k_ => (P0_ k_ ∨ w.heap.size ≤ k_)) (.slice (some ⟨go5, 0, none⟩) x0_1.length co6) y273 := (by rw [hw, Ny273.out]; exact HP7.1); clear HP7; have n0_ := Aside0.mk (hp_); have n1_ := Aside0.mk ((by rw [hw]; exact below_set (HB.out) GB5.out : Below w0.heap.size w0 w8)); have n2_ := Aside0.mk (Kept.of_grown (S := (fun k_ => P0_ k_)) hg (by repeat (first | (with_reducible first | exact HK.out | apply Kept.alloc | apply Kept.drewN | apply Kept.drew) | exact HK.out)) (fun k_ e_ => (HO_0.out.1 k_ e_))); clear HO_0; clear HB; clear HK; have HO_0 := n0_; have HB := n1_; have HK := n2_; clear n0_ n1_ n2_; clear hg hw hp_))
          go_roundg k1
          case measure => have := HK1.out; omega
          case rel => exact ⟨(y273), (wrap64 (x1_1 + 1)), (wrap64 (x5_1 + 1)), (by first | rfl | (simp; done) | (simp [*]; done)), (by first | rfl | (simp; done) | (simp [*]; done)), H', ⟨by have := HK1.out; omega⟩, ⟨by (with_reducible repeat (first | apply Kd.R_alloc | apply Kd.R_drewN | apply Kd.R_drew)); exact HO_0.out⟩, ⟨by repeat (first | (with_reducible first | exact HK.out | apply Kept.alloc | apply Kept.drewN | apply Kept.drew) | exact HK.out)⟩, ⟨by repeat (first | (with_reducible first | exact HB.out | apply below_alloc | apply pw_below_drewN | apply below_drew1) | exact HB.out)⟩⟩
        · rw [if_neg c4] at H
          exact absurd H (by simp)
      · rw [if_neg c3] at H
        have c3b0 : decide (x5_1 < (x0_1.length : Int)) = false := decide_eq_false c3
        clear c3
        simp only [Option.some.injEq, Prod.mk.injEq] at H
        obtain ⟨rfl, rfl⟩ := H
        obtain ⟨Ao9, co9, eo9⟩ := Kd.R_slice HO_0.out
        subst eo9
        go_wp2
        go_ret
        exact ⟨by first | rfl | (simp [errW_none, errW_some] <;> rfl) | (simp [*, errW_none, errW_some] <;> rfl), by (with_reducible repeat (first | apply Kd.R_alloc | apply Kd.R_drewN | apply Kd.R_drew)); exact HO_0.out, by repeat (first | (with_reducible first | exact HB.out | apply below_alloc | apply pw_below_drewN | apply below_drew1) | exact HB.out), by repeat (first | (with_reducible first | exact HK.out | apply Kept.alloc | apply Kept.drewN | apply Kept.drew) | exact HK.out)⟩

/-! ### laws_markIntSS: function 30 -/
def laws_markIntSS.l0 : Nat → List (List Int) → Int → Int → Option (Int × List (List Int))
  | 0, _, _, _ => none
  | k + 1, x0, x1, x5 => if x5 < (x0.length : Int) then (if 0 ≤ x5 then ((laws_markIntS.f k (x0.getD x5.toNat []) x1).bind fun bt => laws_markIntSS.l0 k (x0.set x5.toNat bt.2) bt.1 (wrap64 (x5 + 1))) else none) else some (x1, x0)
def laws_markIntSS.f (k : Nat) (l0 : List (List Int)) (a1 : Int) : Option (Int × List (List Int)) := laws_markIntSS.l0 k l0 a1 0
theorem laws_markIntSS.mono_l : ∀ k, (∀ y0 y1 y2, LeO (laws_markIntSS.l0 k y0 y1 y2) (laws_markIntSS.l0 (k + 1) y0 y1 y2))
  | 0 => fun _ _ _ r h => by simp [laws_markIntSS.l0] at h
  | k + 1 => by
    have ih0 := laws_markIntSS.mono_l k
    intro y0 y1 y2
    rw [laws_markIntSS.l0, laws_markIntSS.l0]
    refine LeO.ite (LeO.ite (LeO.bind (laws_markIntS.mono _ _ _) (fun _ => ih0 _ _ _)) (LeO.none _)) (LeO.refl _)
theorem laws_markIntSS.mono : ∀ a0 a1 k, LeO (laws_markIntSS.f k a0 a1) (laws_markIntSS.f (k + 1) a0 a1) := fun a0 a1 k => laws_markIntSS.mono_l k _ _ _
set_option maxHeartbeats 8000000 in
set_option maxRecDepth 100000 in
theorem laws_markIntSS.calls (k : Nat) (P0_ : Nat → Prop) (u9000_ : Value) (l0 : List (List Int)) (a1 : Int) (r1 : Int) (r2 : List (List Int)) (w0 w : World) (hB : Below w0.heap.size w0 w) (ho0 : Kd.S (Kd.slice 3 (Kd.int .i64)) 26 w w0.heap.size P0_ u9000_ l0) (h : laws_markIntSS.f k l0 a1 = some (r1, r2)) :
    Calls Try.prog 30 #[u9000_, .int .i64 a1] w fun e w' => e = .returned (.int .i64 r1) ∧ Kd.S (Kd.slice 3 (Kd.int .i64)) 26 w' w0.heap.size (fun k_ => (P0_ k_ ∨ w.heap.size ≤ k_)) u9000_ r2 ∧ Below w0.heap.size w0 w' ∧ Kept w w' (fun k_ => P0_ k_) := by
  have HO0 := Aside0.mk (show Kd.S (Kd.slice 3 (Kd.int .i64)) 26 w w0.heap.size (fun k_ => (P0_ k_ ∨ w.heap.size ≤ k_)) u9000_ l0 from Kd.S_mono ho0 (fun k_ hk => (.inl hk)))
  have HK := Aside0.mk (Kept.refl w (fun k_ => P0_ k_))
  have HB := Aside0.mk hB
  clear hB ho0
  have H' := Aside0.mk (show laws_markIntSS.l0 k l0 a1 0 = some (r1, r2) from h)
  clear h
  go_enter Try.func30, Try.ntmps30
  go_wp2
  go_loopg [1, 5] k (fun kq v1 v5 w' => ∃ (x0_1 : List (List Int)) (x1_1 : Int) (x5_1 : Int), v1 = .int .i64 x1_1 ∧ v5 = .int .i64 x5_1 ∧ Aside0 (laws_markIntSS.l0 kq x0_1 x1_1 x5_1 = some (r1, r2)) ∧ Aside0 (kq ≤ k) ∧ Aside0 (Kd.S (Kd.slice 3 (Kd.int .i64)) 26 w' w0.heap.size (fun k_ => (P0_ k_ ∨ w.heap.size ≤ k_)) u9000_ x0_1) ∧ Aside0 (Kept w w' (fun k_ => P0_ k_)) ∧ Aside0 (Below w0.heap.size w0 w'))
  case atStart => exact ⟨l0, a1, 0, (by first | rfl | (simp; done)), (by first | rfl | (simp; done)), H', ⟨Nat.le_refl _⟩, ⟨by (with_reducible repeat (first | apply Kd.S_alloc | apply Kd.S_drewN | apply Kd.S_drew)); exact HO0.out⟩, ⟨by repeat (first | (with_reducible first | exact HK.out | apply Kept.alloc | apply Kept.drewN | apply Kept.drew) | exact HK.out)⟩, ⟨by repeat (first | (with_reducible first | exact HB.out | apply below_alloc | apply pw_below_drewN | apply below_drew1) | exact HB.out)⟩⟩
  case round =>
    clear H'
    try clear c1
    try clear p2
    obtain ⟨x0_1, x1_1, x5_1, rfl, rfl, HA, HK1, HO_0, HK, HB⟩ := hrel
    cases gk with
    | zero => exact absurd HA.out (by simp [laws_markIntSS.l0])
    | succ k1 =>
      have H := HA.out
      clear HA
      simp only [laws_markIntSS.l0] at H
      by_cases c3 : x5_1 < (x0_1.length : Int)
      · rw [if_pos c3] at H
        by_cases c4 : 0 ≤ x5_1
        · rw [if_pos c4] at H
          obtain ⟨⟨t1, t2⟩, A0, H⟩ := Option.bind_eq_some_iff.mp H
          have A := Aside0.mk A0
          clear A0
          have H' := Aside0.mk H
          clear H
          obtain ⟨Ao6, co6, eo6⟩ := Kd.S_slice HO_0.out
          subst eo6
          obtain ⟨go5, co5, eo5, gb5, gl5, cl5, HG5⟩ := Kd.S_form HO_0.out (by omega)
          (first | cases eo5 | (injection eo5 with ea_ en_ ec_; (first | subst ea_ | (injection ea_ with ea_; subst ea_)); subst ec_; clear en_))
          obtain ⟨oki, c, hcl, hM, hcc, hoki, hH⟩ := Kd.S_lend HO_0.out [] x5_1 c4 c3
          obtain ⟨vi, rfl, hRi⟩ := hM
          have hc5 : wr.cell? ⟨go5, x5_1.toNat, none⟩ = some vi := by have h0_ := hcc 0 vi rfl; rw [show x5_1.toNat * (Kd.slice 3 (Kd.int .i64)).sz + 0 = x5_1.toNat from Nat.mul_one _] at h0_; exact h0_
          have hRi := Aside0.mk hRi
          have hH := Aside0.mk hH
          have hoki := Aside0.mk hoki
          have GB5 := Aside0.mk gb5
          clear gb5 gl5 HG5 cl5 hcc hcl
          have c3b0 : decide (x5_1 < (x0_1.length : Int)) = true := decide_eq_true c3
          have p5 := eq_true c4
          have q5 := eq_true c3
          have c4b0 : decide (0 ≤ x5_1) = true := decide_eq_true c4
          clear c3 c4
          go_wp2_with (first | (go_at_call 23; ((with_reducible refine (laws_markIntS.calls k1 oki vi (x0_1.getD x5_1.toNat []) x1_1 t1 t2 w0 _ ?side1 ?side2 A.out).mono ?_); (case side1 => repeat (first | (with_reducible first | exact HB.out | apply below_alloc | apply pw_below_drewN | apply below_drew1) | exact HB.out)); (case side2 => (with_reducible repeat (first | apply Kd.R_alloc | apply Kd.R_drewN | apply Kd.R_drew)); exact hRi.out); rintro e w8 ⟨rfl, hR8, hB8, hK8⟩; have n0_ := Aside0.mk (Kd.H_back (Kd.H_step hH.out (fun k_ _ hn_ hl_ => hK8.2 k_ hl_ hn_)) (show (Kd.slice 3 (Kd.int .i64)).M w8 w0.heap.size (fun k_ => some k_ = vi.ownBlock) t2 [vi] from ⟨vi, rfl, Kd.R_tight rfl hR8⟩) (fun k_ hk_ => hRi.out.1 k_ hk_.symm)); have n1_ := Aside0.mk hB8; have n2_ := Aside0.mk (HK.out.then_ (hK8 : Kept wr w8 oki) (fun k_ hk_ => (hoki.out k_ hk_).1)); clear HO_0 HB HK hH hoki hRi hR8 hB8 hK8 hc5; have HO_0 := n0_; have HB := n1_; have HK := n2_; clear n0_ n1_ n2_)))
          go_roundg k1
          case measure => have := HK1.out; omega
          case rel => exact ⟨_, _, _, (by first | rfl | (simp; done) | (simp [*]; done)), (by first | rfl | (simp; done) | (simp [*]; done)), H', ⟨by have := HK1.out; omega⟩, ⟨by (with_reducible repeat (first | apply Kd.S_alloc | apply Kd.S_drewN | apply Kd.S_drew)); exact HO_0.out⟩, ⟨by repeat (first | (with_reducible first | exact HK.out | apply Kept.alloc | apply Kept.drewN | apply Kept.drew) | exact HK.out)⟩, ⟨by repeat (first | (with_reducible first | exact HB.out | apply below_alloc | apply pw_below_drewN | apply below_drew1) | exact HB.out)⟩⟩
        · rw [if_neg c4] at H
          exact absurd H (by simp)
      · rw [if_neg c3] at H
        have c3b0 : decide (x5_1 < (x0_1.length : Int)) = false := decide_eq_false c3
        clear c3
        cases H
        obtain ⟨Ao6, co6, eo6⟩ := Kd.S_slice HO_0.out
        subst eo6
        go_wp2
        go_ret
        exact ⟨by first | rfl | (simp; done), by (with_reducible repeat (first | apply Kd.S_alloc | apply Kd.S_drewN | apply Kd.S_drew)); exact HO_0.out, by repeat (first | (with_reducible first | exact HB.out | apply below_alloc | apply pw_below_drewN | apply below_drew1) | exact HB.out), by repeat (first | (with_reducible first | exact HK.out | apply Kept.alloc | apply Kept.drewN | apply Kept.drew) | exact HK.out)⟩

end Go.Proofs.Ytjknlfgphlopnaa.PFnExactCyclesOfFirst
