-- Written by this session's pp.py over the kit's print.
import Derived.Test.YtmkcmclochhkeaaPFnExactPairCyclesx0
import Derived.Test.YtmkcmclochhkeaaPFnExactPairCyclesx8
namespace Go.Proofs.Ytmkcmclochhkeaa.PFnExactPairCycles
open Go.RowKit Go.Proofs.YtmkcmclochhkeaaW.PrintWords Go.Proofs.YtmkcmclochhkeaaW.PrintLast Go.Proofs.YtmkcmclochhkeaaW.PrintMore
attribute [local go_sem] max2_int min2_int max_two min_two max_three min_three max_four min_four   -- for this text's walks alone
set_option linter.unusedVariables false
set_option linter.unusedSimpArgs false

/-! ### cmp_Compare_int: function 62 -/
def cmp_Compare_int.f (a0 : Int) (a1 : Int) : Option (Int) := (cmp_isNaN_int.f a0).bind fun t279 => ((cmp_isNaN_int.f a1).bind fun t280 => (if t279 = true then (if t280 = true then (some 0) else (some (-1))) else (if t280 = true then (some 1) else (if a0 < a1 then (some (-1)) else (if a0 > a1 then (some 1) else (some 0))))))
set_option maxHeartbeats 8000000 in
set_option maxRecDepth 100000 in
theorem cmp_Compare_int.calls (a0 : Int) (a1 : Int) (r : Int) (w : World) (h : cmp_Compare_int.f a0 a1 = some r) :
  Calls Try.prog 62 #[.int .i64 a0, .int .i64 a1] w fun e w' => e = .returned (.int .i64 r) ∧ Drawn0 w w' := by
 have H : ((cmp_isNaN_int.f a0).bind fun t279 => ((cmp_isNaN_int.f a1).bind fun t280 => (if t279 = true then (if t280 = true then (some 0) else (some (-1))) else (if t280 = true then (some 1) else (if a0 < a1 then (some (-1)) else (if a0 > a1 then (some 1) else (some 0))))))) = some r := h
 clear h
 replace H := Option.bind_eq_some_iff.mp H
 obtain ⟨t279, A30, H⟩ := H
 replace H : ((cmp_isNaN_int.f a1).bind fun t280 => (if t279 = true then (if t280 = true then (some 0) else (some (-1))) else (if t280 = true then (some 1) else (if a0 < a1 then (some (-1)) else (if a0 > a1 then (some 1) else (some 0)))))) = some r := H
 have A3 := Aside0.mk A30
 clear A30
 replace H := Option.bind_eq_some_iff.mp H
 obtain ⟨t280, A40, H⟩ := H
 replace H : (if t279 = true then (if t280 = true then (some 0) else (some (-1))) else (if t280 = true then (some 1) else (if a0 < a1 then (some (-1)) else (if a0 > a1 then (some 1) else (some 0))))) = some r := H
 have A4 := Aside0.mk A40
 clear A40
 by_cases c5 : t279 = true
 ·subst c5
  have H1 : (if t280 = true then (some 0) else (some (-1))) = some r := by rw [if_pos rfl] at H; exact H
  clear H
  have H := H1
  clear H1
  by_cases c6 : t280 = true
  ·subst c6
   have H1 : (some 0) = some r := by rw [if_pos rfl] at H; exact H
   clear H
   have H := H1
   clear H1
   obtain rfl := Option.some.inj H
   go_enter Try.func62, Try.ntmps62
   go_wp2_with (first | ((with_reducible refine gate_callee (f := 94) rfl ?_); refine goesL_ (some 8) rfl rfl Try.func94 (by kernel_rfl) rfl #[.int .i64 a0] rfl (by (try simp only [List.map_toArray, List.map_cons, List.map_nil]); first | done | rfl) ?_; (with_reducible refine (cmp_isNaN_int.calls a0 true _ A3.out).mono ?_); rintro e w' ⟨rfl, ⟨nd, rfl⟩⟩; refine ⟨_, rfl, ?_⟩) | ((with_reducible refine gate_callee (f := 94) rfl ?_); refine goesL_ (some 10) rfl rfl Try.func94 (by kernel_rfl) rfl #[.int .i64 a1] rfl (by (try simp only [List.map_toArray, List.map_cons, List.map_nil]); first | done | rfl) ?_; (with_reducible refine (cmp_isNaN_int.calls a1 true _ A4.out).mono ?_); rintro e w' ⟨rfl, ⟨nd, rfl⟩⟩; refine ⟨_, rfl, ?_⟩))
   go_ret
   exact ⟨by first | rfl | (simp; done) | (simp [*]; done), by repeat (first | exact Drawn0.refl _ | apply Drawn0.step)⟩
  ·replace c6 := Bool.eq_false_iff.mpr c6
   subst c6
   have H1 : (some (-1)) = some r := by rw [if_neg (show ¬ (false = true) by decide)] at H; exact H
   clear H
   have H := H1
   clear H1
   obtain rfl := Option.some.inj H
   go_enter Try.func62, Try.ntmps62
   go_wp2_with (first | ((with_reducible refine gate_callee (f := 94) rfl ?_); refine goesL_ (some 8) rfl rfl Try.func94 (by kernel_rfl) rfl #[.int .i64 a0] rfl (by (try simp only [List.map_toArray, List.map_cons, List.map_nil]); first | done | rfl) ?_; (with_reducible refine (cmp_isNaN_int.calls a0 true _ A3.out).mono ?_); rintro e w' ⟨rfl, ⟨nd, rfl⟩⟩; refine ⟨_, rfl, ?_⟩) | ((with_reducible refine gate_callee (f := 94) rfl ?_); refine goesL_ (some 10) rfl rfl Try.func94 (by kernel_rfl) rfl #[.int .i64 a1] rfl (by (try simp only [List.map_toArray, List.map_cons, List.map_nil]); first | done | rfl) ?_; (with_reducible refine (cmp_isNaN_int.calls a1 false _ A4.out).mono ?_); rintro e w' ⟨rfl, ⟨nd, rfl⟩⟩; refine ⟨_, rfl, ?_⟩))
   go_ret
   exact ⟨by first | rfl | (simp; done) | (simp [*]; done), by repeat (first | exact Drawn0.refl _ | apply Drawn0.step)⟩
 ·replace c5 := Bool.eq_false_iff.mpr c5
  subst c5
  have H1 : (if t280 = true then (some 1) else (if a0 < a1 then (some (-1)) else (if a0 > a1 then (some 1) else (some 0)))) = some r := by rw [if_neg (show ¬ (false = true) by decide)] at H; exact H
  clear H
  have H := H1
  clear H1
  by_cases c7 : t280 = true
  ·subst c7
   have H1 : (some 1) = some r := by rw [if_pos rfl] at H; exact H
   clear H
   have H := H1
   clear H1
   obtain rfl := Option.some.inj H
   go_enter Try.func62, Try.ntmps62
   go_wp2_with (first | ((with_reducible refine gate_callee (f := 94) rfl ?_); refine goesL_ (some 8) rfl rfl Try.func94 (by kernel_rfl) rfl #[.int .i64 a0] rfl (by (try simp only [List.map_toArray, List.map_cons, List.map_nil]); first | done | rfl) ?_; (with_reducible refine (cmp_isNaN_int.calls a0 false _ A3.out).mono ?_); rintro e w' ⟨rfl, ⟨nd, rfl⟩⟩; refine ⟨_, rfl, ?_⟩) | ((with_reducible refine gate_callee (f := 94) rfl ?_); refine goesL_ (some 10) rfl rfl Try.func94 (by kernel_rfl) rfl #[.int .i64 a1] rfl (by (try simp only [List.map_toArray, List.map_cons, List.map_nil]); first | done | rfl) ?_; (with_reducible refine (cmp_isNaN_int.calls a1 true _ A4.out).mono ?_); rintro e w' ⟨rfl, ⟨nd, rfl⟩⟩; refine ⟨_, rfl, ?_⟩))
   go_ret
   exact ⟨by first | rfl | (simp; done) | (simp [*]; done), by repeat (first | exact Drawn0.refl _ | apply Drawn0.step)⟩
  ·replace c7 := Bool.eq_false_iff.mpr c7
   subst c7
   have H1 : (if a0 < a1 then (some (-1)) else (if a0 > a1 then (some 1) else (some 0))) = some r := by rw [if_neg (show ¬ (false = true) by decide)] at H; exact H
   clear H
   have H := H1
   clear H1
   by_cases c8 : a0 < a1
   ·rw [if_pos c8] at H
    have c8b0 : decide (a0 < a1) = true := decide_eq_true c8
    clear c8
    obtain rfl := Option.some.inj H
    go_enter Try.func62, Try.ntmps62
    go_wp2_with (first | ((with_reducible refine gate_callee (f := 94) rfl ?_); refine goesL_ (some 8) rfl rfl Try.func94 (by kernel_rfl) rfl #[.int .i64 a0] rfl (by (try simp only [List.map_toArray, List.map_cons, List.map_nil]); first | done | rfl) ?_; (with_reducible refine (cmp_isNaN_int.calls a0 false _ A3.out).mono ?_); rintro e w' ⟨rfl, ⟨nd, rfl⟩⟩; refine ⟨_, rfl, ?_⟩) | ((with_reducible refine gate_callee (f := 94) rfl ?_); refine goesL_ (some 10) rfl rfl Try.func94 (by kernel_rfl) rfl #[.int .i64 a1] rfl (by (try simp only [List.map_toArray, List.map_cons, List.map_nil]); first | done | rfl) ?_; (with_reducible refine (cmp_isNaN_int.calls a1 false _ A4.out).mono ?_); rintro e w' ⟨rfl, ⟨nd, rfl⟩⟩; refine ⟨_, rfl, ?_⟩))
    go_ret
    exact ⟨by first | rfl | (simp; done) | (simp [*]; done), by repeat (first | exact Drawn0.refl _ | apply Drawn0.step)⟩
   ·rw [if_neg c8] at H
    have c8b0 : decide (a0 < a1) = false := decide_eq_false c8
    clear c8
    by_cases c9 : a0 > a1
    ·rw [if_pos c9] at H
     have c9b0 : decide (a1 < a0) = true := decide_eq_true c9
     clear c9
     obtain rfl := Option.some.inj H
     go_enter Try.func62, Try.ntmps62
     go_wp2_with (first | ((with_reducible refine gate_callee (f := 94) rfl ?_); refine goesL_ (some 8) rfl rfl Try.func94 (by kernel_rfl) rfl #[.int .i64 a0] rfl (by (try simp only [List.map_toArray, List.map_cons, List.map_nil]); first | done | rfl) ?_; (with_reducible refine (cmp_isNaN_int.calls a0 false _ A3.out).mono ?_); rintro e w' ⟨rfl, ⟨nd, rfl⟩⟩; refine ⟨_, rfl, ?_⟩) | ((with_reducible refine gate_callee (f := 94) rfl ?_); refine goesL_ (some 10) rfl rfl Try.func94 (by kernel_rfl) rfl #[.int .i64 a1] rfl (by (try simp only [List.map_toArray, List.map_cons, List.map_nil]); first | done | rfl) ?_; (with_reducible refine (cmp_isNaN_int.calls a1 false _ A4.out).mono ?_); rintro e w' ⟨rfl, ⟨nd, rfl⟩⟩; refine ⟨_, rfl, ?_⟩))
     go_ret
     exact ⟨by first | rfl | (simp; done) | (simp [*]; done), by repeat (first | exact Drawn0.refl _ | apply Drawn0.step)⟩
    ·rw [if_neg c9] at H
     have c9b0 : decide (a1 < a0) = false := decide_eq_false c9
     clear c9
     obtain rfl := Option.some.inj H
     go_enter Try.func62, Try.ntmps62
     go_wp2_with (first | ((with_reducible refine gate_callee (f := 94) rfl ?_); refine goesL_ (some 8) rfl rfl Try.func94 (by kernel_rfl) rfl #[.int .i64 a0] rfl (by (try simp only [List.map_toArray, List.map_cons, List.map_nil]); first | done | rfl) ?_; (with_reducible refine (cmp_isNaN_int.calls a0 false _ A3.out).mono ?_); rintro e w' ⟨rfl, ⟨nd, rfl⟩⟩; refine ⟨_, rfl, ?_⟩) | ((with_reducible refine gate_callee (f := 94) rfl ?_); refine goesL_ (some 10) rfl rfl Try.func94 (by kernel_rfl) rfl #[.int .i64 a1] rfl (by (try simp only [List.map_toArray, List.map_cons, List.map_nil]); first | done | rfl) ?_; (with_reducible refine (cmp_isNaN_int.calls a1 false _ A4.out).mono ?_); rintro e w' ⟨rfl, ⟨nd, rfl⟩⟩; refine ⟨_, rfl, ?_⟩))
     go_ret
     exact ⟨by first | rfl | (simp; done) | (simp [*]; done), by repeat (first | exact Drawn0.refl _ | apply Drawn0.step)⟩

/-! ### slices_Compare_int_int: function 36 -/
def slices_Compare_int_int.l0 : Nat → List Int → List Int → List Int → Int → Int → Option (Int)
 | 0, _, _, _, _, _ => none
 | k + 1, x0, x1, x9, x10, x11 => if x11 < x10 then (if 0 ≤ x11 then (if x11 < (x9.length : Int) then (if x11 ≥ (x1.length : Int) then (some 1) else (if x11 < (x1.length : Int) then ((cmp_Compare_int.f (rd x9 x11) (rd x1 x11)).bind fun t283 => (if t283 = 0 then (slices_Compare_int_int.l0 k x0 x1 x9 x10 (wrap64 (x11 + 1))) else (some t283))) else (none))) else (none)) else (none)) else (if (x0.length : Int) < (x1.length : Int) then (some (-1)) else (some 0))
def slices_Compare_int_int.f (k : Nat) (l0 : List Int) (l1 : List Int) : Option (Int) := slices_Compare_int_int.l0 k l0 l1 l0 (l0.length : Int) 0
theorem slices_Compare_int_int.mono_l : ∀ k, (∀ y0 y1 y2 y3 y4, LeO (slices_Compare_int_int.l0 k y0 y1 y2 y3 y4) (slices_Compare_int_int.l0 (k + 1) y0 y1 y2 y3 y4))
 | 0 => fun _ _ _ _ _ r h => by simp [slices_Compare_int_int.l0] at h
 | k + 1 => by
  have ih0 := slices_Compare_int_int.mono_l k
  ·intro y0 y1 y2 y3 y4
   unfold slices_Compare_int_int.l0
   repeat' first
   | (with_reducible exact ih0 _ _ _ _ _)
   | (with_reducible exact LeO.refl _)
   | (with_reducible exact LeO.none _)
   | (with_reducible refine LeO.ite ?_ ?_)
   | (with_reducible refine LeO.bind ?_ (fun _ => ?_))
   | exact ih0 _ _ _ _ _
   | exact LeO.none _
   | refine LeO.ite ?_ ?_
   | refine LeO.bind ?_ (fun _ => ?_)
theorem slices_Compare_int_int.mono : ∀ a0 a1 k, LeO (slices_Compare_int_int.f k a0 a1) (slices_Compare_int_int.f (k + 1) a0 a1) := by
 intro a0 a1 k
 have ih0 := slices_Compare_int_int.mono_l k
 unfold slices_Compare_int_int.f
 repeat' first
   | (with_reducible exact ih0 _ _ _ _ _)
   | (with_reducible exact LeO.refl _)
   | (with_reducible exact LeO.none _)
   | (with_reducible refine LeO.ite ?_ ?_)
   | (with_reducible refine LeO.bind ?_ (fun _ => ?_))
   | exact ih0 _ _ _ _ _
   | exact LeO.none _
   | refine LeO.ite ?_ ?_
   | refine LeO.bind ?_ (fun _ => ?_)
set_option maxHeartbeats 8000000 in
set_option maxRecDepth 100000 in
theorem slices_Compare_int_int.calls (k : Nat) (A0 : Option Addr) (c0 : Nat) (l0 : List Int) (A1 : Option Addr) (c1 : Nat) (l1 : List Int) (r : Int) (w : World) (hr0 : Kd.C (Kd.int .i64) w A0 l0.length l0) (hc0 : l0.length ≤ c0) (hr1 : Kd.C (Kd.int .i64) w A1 l1.length l1) (hc1 : l1.length ≤ c1) (h : slices_Compare_int_int.f k l0 l1 = some r) :
  Calls Try.prog 36 #[.slice A0 l0.length c0, .slice A1 l1.length c1] w fun e w' => e = .returned (.int .i64 r) ∧ Drawn0 w w' := by
 have HR0 := Aside0.mk hr0
 have HC0 := Aside0.mk hc0
 clear hr0 hc0
 have HR1 := Aside0.mk hr1
 have HC1 := Aside0.mk hc1
 clear hr1 hc1
 have H : (slices_Compare_int_int.l0 k l0 l1 l0 (l0.length : Int) 0) = some r := h
 clear h
 have H' := Aside0.mk H
 clear H
 go_enter Try.func36, Try.ntmps36
 go_wp2
 go_loopg [11] k (fun kq v11 w' => ∃ (x11_1 : Int), v11 = .int .i64 x11_1 ∧ Aside0 (slices_Compare_int_int.l0 kq l0 l1 l0 (l0.length : Int) x11_1 = some r) ∧ Aside0 (kq ≤ k) ∧ Drawn0 w w')
 case atStart => exact ⟨(0), (by first | rfl | (simp [*]; done)), H', ⟨Nat.le_refl _⟩, by repeat (first | exact Drawn0.refl _ | apply Drawn0.step)⟩
 case round =>
  clear H'
  try clear c1
  try clear p2
  obtain ⟨x11_1, rfl, HA, HK1, ⟨m1, rfl⟩⟩ := hrel
  cases gk with
  | zero => exact absurd HA.out (by simp [slices_Compare_int_int.l0])
  | succ k1 =>
   have H := HA.out
   clear HA
   simp only [slices_Compare_int_int.l0] at H
   by_cases c3 : x11_1 < (l0.length : Int)
   ·rw [if_pos c3] at H
    have c3b0 : decide (x11_1 < (l0.length : Int)) = true := decide_eq_true c3
    clear c3
    by_cases c4 : 0 ≤ x11_1
    ·rw [if_pos c4] at H
     have c4b0 : decide (0 ≤ x11_1) = true := decide_eq_true c4
     clear c4
     by_cases c5 : x11_1 < (l0.length : Int)
     ·rw [if_pos c5] at H
      have c5b0 : decide (x11_1 < (l0.length : Int)) = true := decide_eq_true c5
      clear c5
      by_cases c6 : x11_1 ≥ (l1.length : Int)
      ·rw [if_pos c6] at H
       have c6b0 : decide ((l1.length : Int) ≤ x11_1) = true := decide_eq_true c6
       clear c6
       obtain rfl := Option.some.inj H
       have p281 : 0 ≤ (x11_1 : Int) := of_decide_eq_true (by first | (with_reducible assumption) | assumption)
       have q281 : x11_1 < (l0.length : Int) := of_decide_eq_true (by first | (with_reducible assumption) | assumption)
       obtain ⟨ad281, e281, hx281_0⟩ := Kd.at_int HR0.out x11_1 p281 q281
       cases e281
       replace p281 := eq_true p281
       replace q281 := eq_true q281
       go_wp2
       go_ret
       exact ⟨by first | rfl | (simp; done) | (simp [*]; done), by repeat (first | exact Drawn0.refl _ | apply Drawn0.step)⟩
      ·rw [if_neg c6] at H
       have c6b0 : decide ((l1.length : Int) ≤ x11_1) = false := decide_eq_false c6
       clear c6
       by_cases c7 : x11_1 < (l1.length : Int)
       ·rw [if_pos c7] at H
        have c7b0 : decide (x11_1 < (l1.length : Int)) = true := decide_eq_true c7
        clear c7
        replace H := Option.bind_eq_some_iff.mp H
        obtain ⟨t283, A80, H⟩ := H
        replace H : (if t283 = 0 then (slices_Compare_int_int.l0 k1 l0 l1 l0 (l0.length : Int) (wrap64 (x11_1 + 1))) else (some t283)) = some r := H
        have A8 := Aside0.mk A80
        clear A80
        by_cases c9 : t283 = 0
        ·rw [if_pos c9] at H
         have c9b0 : (t283 == 0) = true := beq_iff_eq.mpr c9
         have c9b1 : (t283 != 0) = false := bne_eq_false_iff_eq.mpr c9
         clear c9
         have H' := Aside0.mk H
         clear H
         have p281 : 0 ≤ (x11_1 : Int) := of_decide_eq_true (by first | (with_reducible assumption) | assumption)
         have q281 : x11_1 < (l0.length : Int) := of_decide_eq_true (by first | (with_reducible assumption) | assumption)
         obtain ⟨ad281, e281, hx281_0⟩ := Kd.at_int HR0.out x11_1 p281 q281
         cases e281
         replace p281 := eq_true p281
         replace q281 := eq_true q281
         have p282 : 0 ≤ (x11_1 : Int) := of_decide_eq_true (by first | (with_reducible assumption) | assumption)
         have q282 : x11_1 < (l1.length : Int) := of_decide_eq_true (by first | (with_reducible assumption) | assumption)
         obtain ⟨ad282, e282, hx282_0⟩ := Kd.at_int HR1.out x11_1 p282 q282
         cases e282
         replace p282 := eq_true p282
         replace q282 := eq_true q282
         go_wp2_with (first | ((with_reducible refine gate_callee (f := 62) rfl ?_); refine goesL_ (some 26) rfl rfl Try.func62 (by kernel_rfl) rfl #[.int .i64 (rd l0 x11_1), .int .i64 (rd l1 x11_1)] rfl (by (try simp only [List.map_toArray, List.map_cons, List.map_nil]); first | done | rfl) ?_; (with_reducible refine (cmp_Compare_int.calls (rd l0 x11_1) (rd l1 x11_1) t283 _ A8.out).mono ?_); rintro e w' ⟨rfl, ⟨nd, rfl⟩⟩; refine ⟨_, rfl, ?_⟩))
         go_roundg k1
         case measure => have := HK1.out; omega
         case rel => exact ⟨(wrap64 (x11_1 + 1)), (by first | rfl | (simp [*]; done)), H', ⟨by have := HK1.out; omega⟩, by repeat (first | exact Drawn0.refl _ | apply Drawn0.step)⟩
        ·rw [if_neg c9] at H
         have c9b0 : (t283 == 0) = false := beq_eq_false_iff_ne.mpr c9
         have c9b1 : (t283 != 0) = true := bne_iff_ne.mpr c9
         obtain rfl := Option.some.inj H
         have p281 : 0 ≤ (x11_1 : Int) := of_decide_eq_true (by first | (with_reducible assumption) | assumption)
         have q281 : x11_1 < (l0.length : Int) := of_decide_eq_true (by first | (with_reducible assumption) | assumption)
         obtain ⟨ad281, e281, hx281_0⟩ := Kd.at_int HR0.out x11_1 p281 q281
         cases e281
         replace p281 := eq_true p281
         replace q281 := eq_true q281
         have p282 : 0 ≤ (x11_1 : Int) := of_decide_eq_true (by first | (with_reducible assumption) | assumption)
         have q282 : x11_1 < (l1.length : Int) := of_decide_eq_true (by first | (with_reducible assumption) | assumption)
         obtain ⟨ad282, e282, hx282_0⟩ := Kd.at_int HR1.out x11_1 p282 q282
         cases e282
         replace p282 := eq_true p282
         replace q282 := eq_true q282
         go_wp2_with (first | ((with_reducible refine gate_callee (f := 62) rfl ?_); refine goesL_ (some 26) rfl rfl Try.func62 (by kernel_rfl) rfl #[.int .i64 (rd l0 x11_1), .int .i64 (rd l1 x11_1)] rfl (by (try simp only [List.map_toArray, List.map_cons, List.map_nil]); first | done | rfl) ?_; (with_reducible refine (cmp_Compare_int.calls (rd l0 x11_1) (rd l1 x11_1) t283 _ A8.out).mono ?_); rintro e w' ⟨rfl, ⟨nd, rfl⟩⟩; refine ⟨_, rfl, ?_⟩))
         go_ret
         exact ⟨by first | rfl | (simp; done) | (simp [*]; done), by repeat (first | exact Drawn0.refl _ | apply Drawn0.step)⟩
       ·rw [if_neg c7] at H
        exact absurd H (by simp)
     ·rw [if_neg c5] at H
      exact absurd H (by simp)
    ·rw [if_neg c4] at H
     exact absurd H (by simp)
   ·rw [if_neg c3] at H
    have c3b0 : decide (x11_1 < (l0.length : Int)) = false := decide_eq_false c3
    clear c3
    by_cases c10 : (l0.length : Int) < (l1.length : Int)
    ·rw [if_pos c10] at H
     have c10b0 : decide ((l0.length : Int) < (l1.length : Int)) = true := decide_eq_true c10
     have c10b1 : decide (l0.length < l1.length) = true := decide_eq_true (Int.ofNat_lt.mp c10)
     clear c10
     obtain rfl := Option.some.inj H
     go_wp2
     go_ret
     exact ⟨by first | rfl | (simp; done) | (simp [*]; done), by repeat (first | exact Drawn0.refl _ | apply Drawn0.step)⟩
    ·rw [if_neg c10] at H
     have c10b0 : decide ((l0.length : Int) < (l1.length : Int)) = false := decide_eq_false c10
     have c10b1 : decide (l0.length < l1.length) = false := decide_eq_false (fun h => c10 (Int.ofNat_lt.mpr h))
     clear c10
     obtain rfl := Option.some.inj H
     go_wp2
     go_ret
     exact ⟨by first | rfl | (simp; done) | (simp [*]; done), by repeat (first | exact Drawn0.refl _ | apply Drawn0.step)⟩

/-! ### slices_Grow_int_int: function 83 -/
set_option maxHeartbeats 4000000 in
set_option maxRecDepth 100000 in
theorem slices_Grow_int_int.nil (n : Int) (w : World) (h0 : 0 ≤ n) (hn : n ≤ 1000000000) :
  Calls Try.prog 83 #[.slice none 0 0, .int .i64 n] w fun e w' => ∃ v0_ : Value, e = .returned (v0_) ∧ Kd.R (Kd.int .i64) 3 w' w.heap.size (fun _ => True) v0_ [] ∧ Below w.heap.size w w' := by
 have c1 : decide (n < 0) = false := decide_eq_false (by omega)
 have hw : wrap64 n = n := by unfold wrap64; omega
 have hw2 : IntKind.i64.wrap n = n := (i64_w n).trans hw
 by_cases c : 0 < n
 ·have c2 : decide (0 < n) = true := decide_eq_true c
  have H0 := Aside0.mk h0
  have HN := Aside0.mk hn
  clear h0 hn c
  go_enter Try.func83, Try.ntmps83
  go_wp2_with (first
   | ((with_reducible refine gate_builtin (b := .append) (xs := #[.tmp 20, .tmp 21]) rfl ?_); at_builtin; refine Kd.R_append_zeros (Kd.int .i64) (w0 := w) w.heap.size rfl (.tmp 20) (.tmp 21) 23 3 3 (.int .i64 0) 8 rfl Try.underlying23 Try.underlying3 info3 rfl (by decide) (by decide) (.slice none 0 0) [] (0 : Int) n (fun _ => True) rfl rfl ?zero (fun _ _ => trivial) (Kd.R_nil _ _ _ _ _) H0.out (Below.refl _ _) (Nat.le_refl _) ?lim ?_; (case zero => exact rfl); (case lim => have := H0.out; have := HN.out; simp only [List.length_nil, Nat.zero_add]; omega); intro v1 w1 ho hb hg hat; obtain ⟨A1, q1, e1⟩ := Kd.R_slice ho; subst e1; have HO := Aside0.mk (Kd.R_take ho (Nat.zero_le _)); have HB := Aside0.mk hb; clear ho hb hg hat))
  go_ret
  exact ⟨_, rfl, HO.out, HB.out⟩
 ·have c2 : decide (0 < n) = false := decide_eq_false c
  clear c
  go_enter Try.func83, Try.ntmps83
  go_wp2
  go_ret
  exact ⟨_, rfl, Kd.R_nil _ _ _ _ _, Below.refl _ _⟩

/-! ### slices_Concat_int_int: function 58 -/
def slices_Concat_int_int.tot : List (List Int) → Nat
 | [] => 0
 | x :: r => x.length + slices_Concat_int_int.tot r
def slices_Concat_int_int.f (l0 : List (List Int)) : Option (List Int) := if slices_Concat_int_int.tot l0 ≤ 1000000000 ∧ l0.length ≤ 1000000000 then some l0.flatten else none
theorem slices_Concat_int_int.tot_app : ∀ (l r : List (List Int)), slices_Concat_int_int.tot (l ++ r) = slices_Concat_int_int.tot l + slices_Concat_int_int.tot r
 | [], r => by rw [List.nil_append, slices_Concat_int_int.tot, Nat.zero_add]
 | x :: l, r => by rw [List.cons_append, slices_Concat_int_int.tot, slices_Concat_int_int.tot, slices_Concat_int_int.tot_app l r, Nat.add_assoc]
theorem slices_Concat_int_int.flat : ∀ (l : List (List Int)), l.flatten.length = slices_Concat_int_int.tot l
 | [] => rfl
 | x :: l => by rw [List.flatten_cons, List.length_append, slices_Concat_int_int.flat l, slices_Concat_int_int.tot]
theorem slices_Concat_int_int.at_ {w : World} {A : Option Addr} {n : Nat} {xs : List (List Int)} (h : Kd.C (Kd.slice 3 (Kd.int .i64)) w A n xs) (i : Int) (h0 : 0 ≤ i) (h1 : i < n) : ∃ ad A0 c0, A = some ad ∧ w.cell? (ad.add i.toNat) = some (.slice A0 (xs.getD i.toNat []).length c0) ∧ (xs.getD i.toNat []).length ≤ c0 ∧ (Kd.int .i64).C w A0 (xs.getD i.toNat []).length (xs.getD i.toNat []) := by
 obtain ⟨ad, c, e, _, hK, hc0⟩ := Kd.C_get h ([] : List Int) i h0 h1
 have hc : ∀ j u, c[j]? = some u → w.cell? (ad.add (i.toNat * 1 + j)) = some u := hc0
 obtain ⟨A0, c0, rfl, l0, g0⟩ := hK
 exact ⟨ad, A0, c0, e, by have hq := hc 0 _ rfl; rwa [Nat.mul_one, Nat.add_zero] at hq, l0, g0⟩
theorem slices_Concat_int_int.step (l : List (List Int)) (x : Int) (h0 : 0 ≤ x) (h1 : x < (l.length : Int)) : l.take (x + 1).toNat = l.take x.toNat ++ [l.getD x.toNat []] := by
 have hx : x.toNat < l.length := by omega
 rw [show (x + 1).toNat = x.toNat + 1 by omega, List.take_succ_eq_append_getElem hx, List.getD_eq_getElem?_getD, List.getElem?_eq_getElem hx]
 rfl
theorem slices_Concat_int_int.le (l : List (List Int)) (n : Nat) : slices_Concat_int_int.tot (l.take n) ≤ slices_Concat_int_int.tot l := by
 have h := slices_Concat_int_int.tot_app (l.take n) (l.drop n)
 rw [List.take_append_drop] at h
 omega
theorem slices_Concat_int_int.next (l : List (List Int)) (x : Int) (h0 : 0 ≤ x) (h1 : x < (l.length : Int)) : slices_Concat_int_int.tot (l.take (x + 1).toNat) = slices_Concat_int_int.tot (l.take x.toNat) + (l.getD x.toNat []).length ∧ (l.take (x + 1).toNat).flatten = (l.take x.toNat).flatten ++ l.getD x.toNat [] := by
 rw [slices_Concat_int_int.step l x h0 h1, slices_Concat_int_int.tot_app, List.flatten_append]
 simp [slices_Concat_int_int.tot]
set_option maxHeartbeats 8000000 in
set_option maxRecDepth 100000 in
theorem slices_Concat_int_int.calls (A0 : Option Addr) (c0 : Nat) (l0 : List (List Int)) (r : List Int) (w : World) (hr0 : Kd.C (Kd.slice 3 (Kd.int .i64)) w A0 l0.length l0) (hc0 : l0.length ≤ c0) (h : slices_Concat_int_int.f l0 = some r) :
  Calls Try.prog 58 #[.slice A0 l0.length c0] w fun e w' => ∃ v0_ : Value, e = .returned (v0_) ∧ Kd.R (Kd.int .i64) 3 w' w.heap.size (fun _ => True) v0_ r ∧ Below w.heap.size w w' := by
 unfold slices_Concat_int_int.f at h
 by_cases hl : slices_Concat_int_int.tot l0 ≤ 1000000000 ∧ l0.length ≤ 1000000000
 case neg => rw [if_neg hl] at h; cases h
 rw [if_pos hl] at h
 have h := Option.some.inj h
 have HH := Aside0.mk h
 have HR0 := Aside0.mk hr0
 have HL := Aside0.mk hl
 clear hr0 hl h
 go_enter Try.func58, Try.ntmps58
 go_wp2
 go_loopg [3, 11] l0.length (fun gg v3 v11 w' => ∃ (m x : Int), v3 = .int .i64 m ∧ v11 = .int .i64 x ∧ Aside0 (0 ≤ x ∧ x ≤ (l0.length : Int) ∧ (l0.length : Int) - x ≤ gg ∧ m = (slices_Concat_int_int.tot (l0.take x.toNat) : Int)) ∧ Drawn0 w w')
 case atStart => exact ⟨0, 0, rfl, rfl, ⟨by omega, by omega, by omega, rfl⟩, by repeat (first | exact Drawn0.refl _ | apply Drawn0.step)⟩
 case round =>
  obtain ⟨m, x, rfl, rfl, HX, ⟨m1, rfl⟩⟩ := hrel
  by_cases c4 : x < (l0.length : Int)
  ·have c4b0 : decide (x < (l0.length : Int)) = true := decide_eq_true c4
   have p102 : 0 ≤ x := HX.out.1
   have hst := slices_Concat_int_int.next l0 x p102 c4
   have hle := slices_Concat_int_int.le l0 (x + 1).toNat
   have hlo := HL.out
   have hxo := HX.out
   have hmm : m = (slices_Concat_int_int.tot (l0.take x.toNat) : Int) := hxo.2.2.2
   obtain ⟨ad102, A1, q1, e102, hx102_0, hq102, hC102⟩ := slices_Concat_int_int.at_ HR0.out x p102 c4
   cases e102
   have hw1 : wrap64 (x + 1) = x + 1 := by unfold wrap64; omega
   have hw2 : wrap64 (m + ((l0.getD x.toNat []).length : Int)) = m + ((l0.getD x.toNat []).length : Int) := by unfold wrap64; omega
   have c5b0 : decide (m + ((l0.getD x.toNat []).length : Int) < 0) = false := decide_eq_false (by omega)
   have HST := Aside0.mk hst
   have HMM := Aside0.mk hmm
   replace p102 := eq_true p102
   replace c4 := eq_true c4
   have HW := Aside0.mk hw1
   have HW2 := Aside0.mk hw2
   clear hw1 hst hle hlo hxo hq102 hC102 hw2 hmm
   obtain ⟨L, hL⟩ : ∃ L : Nat, (l0.getD x.toNat []).length = L := ⟨_, rfl⟩
   rw [hL] at hx102_0 c5b0
   have HLL := Aside0.mk hL
   clear hL
   have hw3 : wrap64 (m + (L : Int)) = m + (L : Int) := by have := HW2.out; rw [HLL.out] at this; exact this
   have hw4 : IntKind.i64.wrap (m + (L : Int)) = m + (L : Int) := (i64_w _).trans hw3
   go_wp2
   have HXo := HX.out
   have hx0 := of_eq_true p102
   have hx1 := of_eq_true c4
   go_roundg (gk - 1)
   case measure => omega
   case rel => exact ⟨m + (L : Int), x + 1, by first | rfl | (simp only [hw3]; done) | (rw [hw3]; done), by first | rfl | rw [HW.out], ⟨by omega, by omega, by omega, by rw [HST.out.1, HMM.out, ← HLL.out]; omega⟩, by repeat (first | exact Drawn0.refl _ | apply Drawn0.step)⟩
  ·have c4b0 : decide (x < (l0.length : Int)) = false := decide_eq_false c4
   have hm0 : m = (slices_Concat_int_int.tot l0 : Int) := by
    have h1 := HX.out
    rw [h1.2.2.2, List.take_of_length_le (by omega)]
   subst hm0
   have HN := Aside0.mk (show (0 : Int) ≤ (slices_Concat_int_int.tot l0 : Int) ∧ (slices_Concat_int_int.tot l0 : Int) ≤ 1000000000 by have := HL.out; omega)
   clear HX
   have HB := Aside0.mk (pw_below_drewN (Below.refl w.heap.size w) m1)
   go_wp2_with (first
    | (go_at_call 83; ((with_reducible refine (slices_Grow_int_int.nil _ _ HN.out.1 HN.out.2).mono ?_); rintro e w5 ⟨v5, rfl, ho0, hb⟩; have HO := Aside0.mk (Kd.R_lower ho0 (below_size (by repeat (first | exact HB.out | apply below_alloc | apply pw_below_drewN | apply below_drew1)))); have m0_ := Aside0.mk (below_step (by repeat (first | exact HB.out | apply below_alloc | apply pw_below_drewN | apply below_drew1)) hb); clear HB hb ho0; have HB := m0_; clear m0_)))
   go_loopg [6, 27] l0.length (fun gg v6 v27 w' => ∃ (x : Int), v27 = .int .i64 x ∧ Aside0 (0 ≤ x ∧ x ≤ (l0.length : Int) ∧ (l0.length : Int) - x ≤ gg) ∧ Aside0 (Kd.R (Kd.int .i64) 3 w' w.heap.size (fun _ => True) v6 (l0.take x.toNat).flatten) ∧ Aside0 (Below w.heap.size w w'))
   case atStart => exact ⟨0, rfl, ⟨by omega, by omega, by omega⟩, ⟨(by (with_reducible repeat (first | apply Kd.R_alloc | apply Kd.R_drewN | apply Kd.R_drew)); exact HO.out)⟩, ⟨(by repeat (first | exact HB.out | apply below_alloc | apply pw_below_drewN | apply below_drew1))⟩⟩
   case round =>
    clear HO HB
    obtain ⟨x2, rfl, HX, HO, HB⟩ := hrel
    by_cases c7 : x2 < (l0.length : Int)
    ·have c7b0 : decide (x2 < (l0.length : Int)) = true := decide_eq_true c7
     have p102 : 0 ≤ x2 := HX.out.1
     have HST := Aside0.mk (slices_Concat_int_int.next l0 x2 p102 c7)
     have HLE := Aside0.mk (slices_Concat_int_int.le l0 (x2 + 1).toNat)
     obtain ⟨ad102, A1, q1, e102, hx102_0, hq102, hC102⟩ := slices_Concat_int_int.at_ (Kd.C_below HR0.out HB.out) x2 p102 c7
     cases e102
     have HC := Aside0.mk hC102
     have hw1 : wrap64 (x2 + 1) = x2 + 1 := by have := HL.out; unfold wrap64; omega
     replace p102 := eq_true p102
     replace c7 := eq_true c7
     have HW := Aside0.mk hw1
     clear hw1 hq102 hC102
     obtain ⟨Y, hY⟩ : ∃ Y : List Int, l0.getD x2.toNat [] = Y := ⟨_, rfl⟩
     rw [hY] at hx102_0
     obtain ⟨F, hF⟩ : ∃ F : List Int, (l0.take x2.toNat).flatten = F := ⟨_, rfl⟩
     have HC := Aside0.mk (show (Kd.int .i64).C _ A1 Y.length Y from hY ▸ HC.out)
     have HO := Aside0.mk (show Kd.R (Kd.int .i64) 3 _ w.heap.size (fun _ => True) _ F from hF ▸ HO.out)
     have HLIM := Aside0.mk (show F.length + Y.length ≤ 1000000000 by
      have h1 := HST.out.1
      have h2 := HLE.out
      have h3 := HL.out
      have h4 := slices_Concat_int_int.flat (l0.take x2.toNat)
      rw [hF] at h4
      rw [hY] at h1
      omega)
     have HFY := Aside0.mk (show (l0.take (x2 + 1).toNat).flatten = F ++ Y by rw [HST.out.2, hF, hY])
     clear hY hF
     obtain ⟨Aq, cq, eq_⟩ := Kd.R_slice HO.out
     subst eq_
     go_wp2_with (first
      | ((with_reducible refine gate_builtin (b := .append) (xs := #[.tmp 31, .tmp 32]) rfl ?_); at_builtin; refine Kd.R_append_rows (Kd.int .i64) (Rr := (Kd.int .i64).K wr) (w0 := w) w.heap.size rfl (.tmp 31) (.tmp 32) 23 3 (.int .i64 0) 8 rfl Try.underlying23 info3 rfl (by decide) (by decide) (.slice Aq F.length cq) F Y A1 Y.length q1 (fun _ => True) (fun _ => False) rfl rfl ?aO ?aR ?aK (fun _ hk => hk.elim) (fun _ _ => trivial) ?aB ?aS ?aL ?_; (case aO => exact (by (with_reducible repeat (first | apply Kd.R_alloc | apply Kd.R_drewN | apply Kd.R_drew)); exact HO.out)); (case aR => repeat (first | exact HC.out | (with_reducible refine Kd.C_alloc ?_ _) | (with_reducible refine Kd.C_drewN ?_ _) | (with_reducible refine Kd.C_drew ?_))); (case aK => exact fun _ _ h_ => h_); (case aB => exact (by repeat (first | exact HB.out | apply below_alloc | apply pw_below_drewN | apply below_drew1))); (case aS => exact below_size (by repeat (first | exact HB.out | apply below_alloc | apply pw_below_drewN | apply below_drew1))); (case aL => have := HLIM.out; omega); intro v122 w9 ho hb hg hat; clear HO HB; have HO := Aside0.mk ho; have HB := Aside0.mk hb; clear ho hb hg hat))
     have hx0 := of_eq_true p102
     have hx1 := of_eq_true c7
     have HXo := HX.out
     go_roundg (gk - 1)
     case measure => omega
     case rel => exact ⟨x2 + 1, by first | rfl | rw [HW.out], ⟨by omega, by omega, by omega⟩, ⟨by rw [HFY.out]; exact (by (with_reducible repeat (first | apply Kd.R_alloc | apply Kd.R_drewN | apply Kd.R_drew)); exact HO.out)⟩, ⟨(by repeat (first | exact HB.out | apply below_alloc | apply pw_below_drewN | apply below_drew1))⟩⟩
    ·have c7b0 : decide (x2 < (l0.length : Int)) = false := decide_eq_false c7
     have HO2 := Aside0.mk (show Kd.R (Kd.int .i64) 3 _ w.heap.size (fun _ => True) _ r by
      have h1 := HO.out
      have h2 := HX.out
      rw [List.take_of_length_le (by omega), HH.out] at h1
      exact h1)
     go_wp2
     go_ret
     exact ⟨_, rfl, (by (with_reducible repeat (first | apply Kd.R_alloc | apply Kd.R_drewN | apply Kd.R_drew)); exact HO2.out), (by repeat (first | exact HB.out | apply below_alloc | apply pw_below_drewN | apply below_drew1))⟩

/-! ### slices_Clone_int_int: function 59 -/
def slices_Clone_int_int.f (l0 : List Int) : Option (List Int) := if l0.length ≤ 100000 then some l0 else none
theorem clone_size {w : World} {j : Nat} {o : Obj} {ad : Addr} {v : Value} (h : w.cell? (ad.add j) = some v) : (w.alloc o).cell? (ad.add j) = some v := Go.Lib.cell?_alloc_some _ h
set_option maxHeartbeats 4000000 in
set_option maxRecDepth 100000 in
theorem slices_Clone_int_int.calls (A0 : Option Addr) (c0 : Nat) (l0 : List Int) (r : List Int) (w : World) (hr0 : Kd.C (Kd.int .i64) w A0 l0.length l0) (hc0 : l0.length ≤ c0) (h : slices_Clone_int_int.f l0 = some r) :
  Calls Try.prog 59 #[.slice A0 l0.length c0] w fun e w' => ∃ v0_ : Value, e = .returned (v0_) ∧ Kd.R (Kd.int .i64) 3 w' w.heap.size (fun _ => True) v0_ r ∧ Below w.heap.size w w' := by
 unfold slices_Clone_int_int.f at h
 by_cases hl : l0.length ≤ 100000
 ·rw [if_pos hl] at h
  have h := Option.some.inj h
  subst h
  cases A0 with
  | none =>
   have h0 : l0 = [] := by
    cases l0 with
    | nil => rfl
    | cons x t =>
     obtain ⟨ad, hA, _⟩ := Kd.at_int hr0 0 (by omega) (by simp)
     cases hA
   subst h0
   have q22 : ∀ (w : World) (a : Option Addr) (n c n' c' : Nat), (binOp .eql 23 (.slice a n c) (.slice none n' c')).run Try.prog w = .ok (.bool a.isNone) w := fun w a n c n' c' => Go.Lib.run_eql_slice_nil w _ _ a n c n' c' Try.underlying23
   clear hr0
   go_enter Try.func59, Try.ntmps59
   go_wp2
   go_ret
   exact ⟨_, rfl, Kd.R_nil _ _ _ _ _, Below.refl _ _⟩
  | some ad =>
   have q22 : ∀ (w : World) (a : Option Addr) (n c n' c' : Nat), (binOp .eql 23 (.slice a n c) (.slice none n' c')).run Try.prog w = .ok (.bool a.isNone) w := fun w a n c n' c' => Go.Lib.run_eql_slice_nil w _ _ a n c n' c' Try.underlying23
   have HN := Aside0.mk (show ∀ (j : Nat) (u : Value), (encs (Value.int .i64) l0)[j]? = some u → w.cell? (ad.add j) = some u by
    intro j u hj
    have hj' : j < l0.length := by
     have := (List.getElem?_eq_some_iff.1 hj).1
     rwa [encs_length] at this
    obtain ⟨ad', hA, hx⟩ := Kd.at_int hr0 (j : Int) (by omega) (by omega)
    have hA := Option.some.inj hA
    subst hA
    rw [Int.toNat_natCast] at hx
    rw [hx, ← hj, encs_get (d := 0) _ _ hj']
    rfl)
   have HL := Aside0.mk hl
   obtain ⟨i0, hi0, he0⟩ := Option.map_eq_some_iff.1 info3
   have hz0 : i0.zero = some (.int .i64 0) := congrArg (fun p => p.1) he0
   have hz1 : i0.size = 1 := congrArg (fun p => p.2.1) he0
   have hz2 : i0.bytes = 8 := congrArg (fun p => p.2.2) he0
   clear he0
   clear hr0
   go_enter Try.func59, Try.ntmps59
   go_wp2_with (at_builtin; refine wpList_append_own _ rfl _ _ 23 rfl w.heap.size 3 i0 (.int .i64 0) 1 8 Try.underlying23 hi0 hz0 hz1 hz2 rfl (by decide) _ _ _ rfl (World.ownsRow_made w #[] 0 (Nat.le_refl _) (Nat.zero_le _) rfl) ad l0.length c0 (encs (Value.int .i64) l0) rfl ?qc1 ?qc2 ?qc3 ?qc4 ?qc5 (by simp) ?_)
   case qc1 => simp [encs]
   case qc2 => exact fun j u hj => clone_size (HN.out j u hj)
   case qc3 => intro u hu; obtain ⟨x, _, rfl⟩ := List.mem_map.1 hu; rfl
   case qc4 => have := HL.out; unfold maxLen; omega
   case qc5 => have := HL.out; omega
   intro v' w1 hown hgrow hnil
   go_wp2
   go_ret
   refine ⟨v', rfl, Kd.R_of_own (by simpa using hown) (fun _ _ => trivial), ?_⟩
   exact ((Below.refl _ w).alloc (Nat.le_refl _) _).grown hgrow (by simp) (by intro k hk; simp [Value.ownBlock] at hk; omega)
 ·rw [if_neg hl] at h
  exact absurd h (by simp)

/-! ### impl_turnedFirst: function 34 -/
theorem impl_turnedFirst.add1 (ad : Addr) (k : Nat) : ad.add (k + 1) = ⟨(ad.add k).block, (ad.add k).off + 1, none⟩ := by
 unfold Addr.add
 by_cases h : k = 0
 ·subst h; rfl
 ·rw [if_neg (by omega), if_neg h]
  rfl
def impl_turnedFirst.go : Nat → List Int → List Int → Nat → Option (List Int)
 | 0, _, _, _ => none
 | k + 1, l, best, i => if i < l.length then ((slices_Concat_int_int.f [l.drop i, l.take i]).bind fun own => (slices_Compare_int_int.f k own best).bind fun c => if c < 0 then impl_turnedFirst.go k l own (i + 1) else impl_turnedFirst.go k l best (i + 1)) else some best
theorem impl_turnedFirst.put (w : World) (g : Nat) (y z : Value) : w.grownBy ((w.setCell ⟨g, 0, none⟩ y).setCell ⟨g, 1, none⟩ z) (some g) :=
 ⟨rfl, rfl, rfl, by simp, fun i hi e => (Below.heap_setCell _ _ _ _ (fun e2 => e (by rw [e2]))).trans (Below.heap_setCell _ _ _ _ (fun e2 => e (by rw [e2])))⟩
def impl_turnedFirst.f (k : Nat) (l0 : List (Int × Int)) : Option (List Int) := if l0.length ≤ 100000 then ((impl_turnedFirst.go k (l0.map Prod.fst) (l0.map Prod.fst) 0).bind fun b => slices_Clone_int_int.f b) else none
theorem impl_turnedFirst.mono_g : ∀ k l best i, LeO (impl_turnedFirst.go k l best i) (impl_turnedFirst.go (k + 1) l best i)
 | 0, l, best, i => fun r h => by simp [impl_turnedFirst.go] at h
 | k + 1, l, best, i => by
  rw [impl_turnedFirst.go, impl_turnedFirst.go]
  exact LeO.ite (LeO.bind (LeO.refl _) (fun own => LeO.bind (slices_Compare_int_int.mono _ _ _) (fun c => LeO.ite (impl_turnedFirst.mono_g k l own (i + 1)) (impl_turnedFirst.mono_g k l best (i + 1))))) (LeO.refl _)
theorem impl_turnedFirst.mono : ∀ l0 k, LeO (impl_turnedFirst.f k l0) (impl_turnedFirst.f (k + 1) l0) := by
 intro l0 k
 unfold impl_turnedFirst.f
 exact LeO.ite (LeO.bind (impl_turnedFirst.mono_g _ _ _ _) (fun b => LeO.refl _)) (LeO.none _)
theorem impl_turnedFirst.two {W : World} {A1 A2 : Option Addr} {n1 n2 c1 c2 : Nat} {x1 x2 : List Int} (h1 : (Kd.int .i64).C W A1 n1 x1) (h2 : (Kd.int .i64).C W A2 n2 x2) (l1 : n1 ≤ c1) (l2 : n2 ≤ c2) : Kd.C (Kd.slice 3 (Kd.int .i64)) (W.alloc (.cells #[.slice A1 n1 c1, .slice A2 n2 c2] 23 (0, 0))) (some ⟨W.heap.size, 0, none⟩) 2 [x1, x2] := by
 have b := below_alloc (Below.refl W.heap.size W) (.cells #[.slice A1 n1 c1, .slice A2 n2 c2] 23 (0, 0))
 have k1 := Kd.C_below h1 b
 have k2 := Kd.C_below h2 b
 have e1 := Kd.C_len h1
 have e2 := Kd.C_len h2
 subst e1
 subst e2
 have hb := blk_new W (.cells #[.slice A1 x1.length c1, .slice A2 x2.length c2] 23 (0, 0))
 have q0 := (blk_cell hb 0).trans (show (#[Value.slice A1 x1.length c1, .slice A2 x2.length c2] : Array Value)[0]? = some (.slice A1 x1.length c1) from rfl)
 have q1 := (blk_cell hb 1).trans (show (#[Value.slice A1 x1.length c1, .slice A2 x2.length c2] : Array Value)[1]? = some (.slice A2 x2.length c2) from rfl)
 refine ⟨rfl, by decide, fun _ => ⟨_, rfl, fun j p hj => ?_⟩⟩
 rcases j with _ | _ | j
 ·simp only [List.getElem?_cons_zero, Option.some.injEq] at hj
  subst hj
  refine ⟨[.slice A1 x1.length c1], rfl, ⟨A1, c1, rfl, l1, k1⟩, fun i u hu => ?_⟩
  rcases i with _ | i
  ·simp only [List.getElem?_cons_zero, Option.some.injEq] at hu
   subst hu
   exact q0
  ·simp at hu
 ·simp only [List.getElem?_cons_succ, List.getElem?_cons_zero, Option.some.injEq] at hj
  subst hj
  refine ⟨[.slice A2 x2.length c2], rfl, ⟨A2, c2, rfl, l2, k2⟩, fun i u hu => ?_⟩
  rcases i with _ | i
  ·simp only [List.getElem?_cons_zero, Option.some.injEq] at hu
   subst hu
   exact q1
  ·simp at hu
 ·simp at hj
set_option maxHeartbeats 4000000 in
set_option maxRecDepth 100000 in
theorem impl_turnedFirst.calls (k : Nat) (A0 : Option Addr) (c0 : Nat) (l0 : List (Int × Int)) (r : List Int) (w : World) (hr0 : Kd.C (Kd.pair (Kd.int .i64) (Kd.int .i64)) w A0 l0.length l0) (hc0 : l0.length ≤ c0) (h : impl_turnedFirst.f k l0 = some r) :
  Calls Try.prog 34 #[.slice A0 l0.length c0] w fun e w' => ∃ v0_ : Value, e = .returned (v0_) ∧ Kd.R (Kd.int .i64) 3 w' w.heap.size (fun _ => True) v0_ r ∧ Below w.heap.size w w' := by
 unfold impl_turnedFirst.f at h
 by_cases hl : l0.length ≤ 100000
 case neg => rw [if_neg hl] at h; cases h
 rw [if_pos hl] at h
 obtain ⟨best, G_, K_⟩ := Option.bind_eq_some_iff.mp h
 have HL := Aside0.mk hl
 have HG := Aside0.mk G_
 have HC := Aside0.mk K_
 have HR0 := Aside0.mk hr0
 have HB := Aside0.mk (Below.refl w.heap.size w)
 clear h hl G_ K_ hr0
 go_enter Try.func34, Try.ntmps34
 go_wp2_with (first
  | ((with_reducible refine gate_dst (N := 9) rfl ?_); refine Kd.R_lit (Kd.int .i64) (w0 := w) w.heap.size 3 ?hg (N := 9) ?hd (xs := ([] : List Int)) (inner := []) (ok := fun _ => True) (okp := fun _ => True) ?hr ?hp (fun _ hk => hk) trivial (Below.refl _ _) (Nat.le_refl _) (by simp) ?_; (case hd => rfl); (case hg => rfl); (case hr => first | (go_simp; done) | (go_simp; rfl)); (case hp => exact Reps.none _ _); intro v9 w9 ho hb hg_ hnew_; clear HB; have HB := Aside0.mk hb; have HO := Aside0.mk ho; clear ho hb hg_ hnew_))
 go_loopg [3, 12] l0.length (fun kq v3 v12 w' => ∃ (x : Int), v12 = .int .i64 x ∧ Aside0 (0 ≤ x ∧ x ≤ (l0.length : Int) ∧ (l0.length : Int) - x ≤ kq) ∧ Aside0 (Kd.R (Kd.int .i64) 3 w' w.heap.size (fun _ => True) v3 ((l0.take x.toNat).map Prod.fst)) ∧ Aside0 (Below w.heap.size w w'))
 case atStart => exact ⟨0, rfl, ⟨by omega, by omega, by omega⟩, HO, HB⟩
 case round =>
  clear HO HB
  obtain ⟨x, rfl, HX, HO, HB⟩ := hrel
  by_cases c5 : x < (l0.length : Int)
  ·have c5b0 : decide (x < (l0.length : Int)) = true := decide_eq_true c5
   have p0 : 0 ≤ x := HX.out.1
   obtain ⟨ad, c, e_, hcl_, hK_, hcc_⟩ := Kd.C_get (Kd.C_below HR0.out HB.out) (0, 0) x p0 c5
   obtain ⟨u0, u1, rfl, h0_, h1_⟩ := hK_
   have hu0 : u0 = [.int .i64 (l0.getD x.toNat (0, 0)).1] := h0_
   have hu1 : u1 = [.int .i64 (l0.getD x.toNat (0, 0)).2] := h1_
   subst hu0
   subst hu1
   clear h0_ h1_ hcl_
   cases e_
   have ht : (l0.take (x + 1).toNat).map Prod.fst = (l0.take x.toNat).map Prod.fst ++ [(l0.getD x.toNat (0, 0)).1] := by
    have hx : x.toNat < l0.length := by omega
    rw [show (x + 1).toNat = x.toNat + 1 by omega, List.take_succ_eq_append_getElem hx, List.map_append, List.getD_eq_getElem?_getD, List.getElem?_eq_getElem hx]
    rfl
   obtain ⟨⟨y, z⟩, hyz⟩ : ∃ p, l0.getD x.toNat (0, 0) = p := ⟨_, rfl⟩
   rw [hyz] at hcc_ ht
   have NT := Aside0.mk ht
   clear hyz ht
   obtain ⟨q, hq⟩ : ∃ q, (l0.take x.toNat).map Prod.fst = q := ⟨_, rfl⟩
   rw [hq] at HO NT
   have QL := Aside0.mk (show q.length ≤ 100000 by rw [← hq, List.length_map, List.length_take]; have := HL.out; omega)
   clear hq
   have e0 : wr.cell? (ad.add (x.toNat * 2)) = some (.int .i64 y) := hcc_ 0 _ rfl
   have e1 : wr.cell? ⟨(ad.add (x.toNat * 2)).block, (ad.add (x.toNat * 2)).off + 1, none⟩ = some (.int .i64 z) := impl_turnedFirst.add1 ad (x.toNat * 2) ▸ hcc_ 1 _ rfl
   clear hcc_
   have hw1 : wrap64 (x + 1) = x + 1 := by have := HL.out; unfold wrap64; omega
   have HW := Aside0.mk hw1
   clear hw1
   have C5 := Aside0.mk c5
   replace p0 := eq_true p0
   replace c5 := eq_true c5
   obtain ⟨Aq, cq, eq_⟩ := Kd.R_slice HO.out
   subst eq_
   go_wp2_with (first
    | ((with_reducible refine gate_dst (N := 5) rfl ?_); refine box_event ?hg (N := 5) ?hd (cs := #[.int .i64 0, .int .i64 0]) (t := 87) ?hr ?_; (case hd => rfl); (case hg => rfl); (case hr => first | (go_simp; done) | (go_simp; rfl)); intro gp hgp w6 hbp hb; have GP := Aside0.mk (show w.heap.size ≤ gp by rw [hgp]; exact below_size HB.out); have m0_ := Aside0.mk (below_step HB.out hb); have m1_ := Aside0.mk (Kd.R_below HO.out hb); clear HB HO hgp hb e0 e1; have HB := m0_; have HO := m1_; clear m0_ m1_; have PB := Aside0.mk hbp; have q0 := (blk_cell hbp 0).trans (show (#[Value.int .i64 0, .int .i64 0] : Array Value)[0]? = some (.int .i64 0) from rfl); have q1 := (blk_cell hbp 1).trans (show (#[Value.int .i64 0, .int .i64 0] : Array Value)[1]? = some (.int .i64 0) from rfl); have f0 := blk_frozen hbp 0; have f1 := blk_frozen hbp 1; clear hbp)
    | ((with_reducible refine gate_dst (N := 17) rfl ?_); clear q0 q1 f0 f1; have HB2 := Aside0.mk (below_set (below_set HB.out GP.out) GP.out : Below w.heap.size w ((w6.setCell ⟨gp, 0, none⟩ (.int .i64 y)).setCell ⟨gp, 1, none⟩ (.int .i64 z))); have HO2 := Aside0.mk (Kd.R_mono (Kd.R_grown (Kd.R_tight rfl HO.out) (impl_turnedFirst.put w6 gp (.int .i64 y) (.int .i64 z)) (fun k_ hk_ e_ => Kd.R_ne HO.out PB.out (by decide) (e_.symm.trans hk_))) (fun _ _ => trivial)); have c7 : ((w6.setCell ⟨gp, 0, none⟩ (.int .i64 y)).setCell ⟨gp, 1, none⟩ (.int .i64 z)).cell? ⟨gp, 0, none⟩ = some (.int .i64 y) := (blk_cell (blk_set (blk_set PB.out 0 _) 1 _) 0).trans rfl; generalize ((w6.setCell ⟨gp, 0, none⟩ (.int .i64 y)).setCell ⟨gp, 1, none⟩ (.int .i64 z)) = w7 at HB2 HO2 c7 ⊢)
    | ((with_reducible refine gate_builtin (b := .append) (xs := #[.tmp 16, .tmp 19]) rfl ?_); at_builtin; refine Kd.R_append (Kd.int .i64) (W := w7) (w0 := w) w.heap.size rfl (.tmp 16) (.tmp 19) 23 3 (.int .i64 0) 8 rfl Try.underlying23 info3 rfl (by decide) (by omega) (.slice Aq q.length cq) q y [.int .i64 y] (fun _ => True) (fun _ => False) rfl rfl ?aP (fun _ hk => hk.elim) (fun _ _ => trivial) ?aO ?aB ?aS ?aL ?_; (case aP => exact rfl); (case aB => exact HB2.out); (case aO => exact HO2.out); (case aS => exact below_size HB2.out); (case aL => have := QL.out; omega); intro v20 w11 ho_ hb_ hg_ hat_; rw [← NT.out] at ho_; clear HB HO HB2 HO2 c7; have HB := Aside0.mk hb_; have HO := Aside0.mk ho_; clear ho_ hb_ hg_ hat_))
   go_roundg (gk - 1)
   case measure => have := C5.out; have := HX.out; omega
   case rel => exact ⟨x + 1, by first | rfl | rw [HW.out], ⟨by have := HX.out; omega, by have := C5.out; omega, by have := HX.out; have := C5.out; omega⟩, HO, HB⟩
  ·have c5b0 : decide (x < (l0.length : Int)) = false := decide_eq_false c5
   have e_ : l0.take x.toNat = l0 := List.take_of_length_le (by have := HX.out; omega)
   rw [e_] at HO
   obtain ⟨l, hl⟩ : ∃ l, l0.map Prod.fst = l := ⟨_, rfl⟩
   rw [hl] at HO HG
   have LL := Aside0.mk (show l.length ≤ 100000 by rw [← hl, List.length_map]; exact HL.out)
   clear e_ hl HX c5
   obtain ⟨A3, c3, e3_⟩ := Kd.R_slice HO.out
   subst e3_
   have L3 := Aside0.mk (Kd.R_reads' HO.out).2.1
   have C3 := Aside0.mk (Kd.R_reads' HO.out).2.2
   clear HO
   go_wp2
   go_loopg [6, 25] k (fun kq v6 v25 w' => ∃ (bst : List Int) (i : Nat) (A6 : Option Addr) (c6 : Nat), v6 = .slice A6 bst.length c6 ∧ v25 = .int .i64 (i : Int) ∧ Aside0 ((Kd.int .i64).C w' A6 bst.length bst ∧ bst.length ≤ c6) ∧ Aside0 (impl_turnedFirst.go kq l bst i = some best) ∧ Aside0 (Below w.heap.size w w') ∧ Aside0 ((Kd.int .i64).C w' A3 l.length l))
   case atStart => exact ⟨l, 0, A3, c3, rfl, rfl, ⟨C3.out, L3.out⟩, HG, HB, C3⟩
   case round =>
    clear HG HB C3
    obtain ⟨bst, i, A6, c6, rfl, rfl, HS, HG, HB, C3⟩ := hrel
    cases gk with
    | zero => exact absurd HG.out (by simp [impl_turnedFirst.go])
    | succ k1 =>
     have H := HG.out
     clear HG
     simp only [impl_turnedFirst.go] at H
     by_cases c5 : i < l.length
     ·rw [if_pos c5] at H
      have c5b0 : decide ((i : Int) < (l.length : Int)) = true := decide_eq_true (by omega)
      have c5b1 : decide (i < l.length) = true := decide_eq_true c5
      obtain ⟨own, A1_, H1⟩ := Option.bind_eq_some_iff.mp H
      obtain ⟨c, A2_, H2⟩ := Option.bind_eq_some_iff.mp H1
      have A1 := Aside0.mk A1_
      have A2 := Aside0.mk A2_
      have LI := Aside0.mk c5
      have hci : (0 : Int) ≤ (i : Int) := by omega
      have hcl : (i : Int) ≤ (l.length : Int) := by omega
      have hcc : (i : Int) ≤ (c3 : Int) := by have := L3.out; omega
      have hw1 : wrap64 ((i : Int) + 1) = ((i + 1 : Nat) : Int) := by have := LL.out; unfold wrap64; omega
      have HW := Aside0.mk hw1
      clear H H1 A1_ A2_ c5 hw1
      go_upto_region 11 with (first | fail)
      refine start_ (n := 9) (S := fun w' => True) (ds := []) #[false, false, false, false, false, false, false, false, false] (by kernel_rfl) rfl rfl trivial (fun hHeld => ?_)
      refine pure_ (i := 0) (N := some 28) (v := ?_) (a' := ?_) #[true, false, false, false, false, false, false, false, false] rfl rfl (by kernel_rfl) (fun _ _ _ h => h) (Or.inl ⟨by rfl, ?_⟩) ?_ ?_
      rotate_left
      ·intro w'
       go_simp
       with_reducible rfl
      rotate_left
      ·simp only [Act.put, List.setIfInBounds_toArray, List.set_cons_zero, List.set_cons_succ, i64_w, i32_w]
       rfl
      refine pure_ (i := 1) (N := some 29) (v := ?_) (a' := ?_) #[true, true, false, false, false, false, false, false, false] rfl rfl (by kernel_rfl) (fun _ _ _ h => h) (Or.inl ⟨by rfl, ?_⟩) ?_ ?_
      rotate_left
      ·intro w'
       go_simp
       with_reducible rfl
      rotate_left
      ·simp only [Act.put, List.setIfInBounds_toArray, List.set_cons_zero, List.set_cons_succ, i64_w, i32_w]
       rfl
      refine pure_ (i := 2) (N := some 30) (v := ?_) (a' := ?_) #[true, true, true, false, false, false, false, false, false] rfl rfl (by kernel_rfl) (fun _ _ _ h => h) (Or.inl ⟨by rfl, ?_⟩) ?_ ?_
      rotate_left
      ·intro w'
       go_simp
       with_reducible rfl
      rotate_left
      ·simp only [Act.put, List.setIfInBounds_toArray, List.set_cons_zero, List.set_cons_succ, i64_w, i32_w]
       rfl
      refine pure_ (i := 3) (N := some 31) (v := ?_) (a' := ?_) #[true, true, true, true, false, false, false, false, false] rfl rfl (by kernel_rfl) (fun _ _ _ h => h) (Or.inl ⟨by rfl, ?_⟩) ?_ ?_
      rotate_left
      ·intro w'
       go_simp
       with_reducible rfl
      rotate_left
      ·simp only [Act.put, List.setIfInBounds_toArray, List.set_cons_zero, List.set_cons_succ, i64_w, i32_w]
       rfl
      refine pure_ (i := 4) (N := some 32) (v := ?_) (a' := ?_) #[true, true, true, true, true, false, false, false, false] rfl rfl (by kernel_rfl) (fun _ _ _ h => h) (Or.inl ⟨by rfl, ?_⟩) ?_ ?_
      rotate_left
      ·intro w'
       go_simp
       with_reducible rfl
      rotate_left
      ·simp only [Act.put, List.setIfInBounds_toArray, List.set_cons_zero, List.set_cons_succ, i64_w, i32_w]
       rfl
      refine pure_ (i := 5) (N := some 33) (v := ?_) (a' := ?_) #[true, true, true, true, true, true, false, false, false] rfl rfl (by kernel_rfl) (fun _ _ _ h => h) (Or.inl ⟨by rfl, ?_⟩) ?_ ?_
      rotate_left
      ·intro w'
       go_simp
       with_reducible rfl
      rotate_left
      ·simp only [Act.put, List.setIfInBounds_toArray, List.set_cons_zero, List.set_cons_succ, i64_w, i32_w]
       rfl
      refine one_ (i := 6) (N := some 34) #[true, true, true, true, true, true, true, false, false] rfl rfl (by kernel_rfl) (by decide) (fun K hK => ?_)
      refine value_ (w1 := ?_) (v := ?_) (by rfl) rfl ?_ ?_
      rotate_left 2
      ·go_simp
       constructor
       ·rfl
       ·rfl
      have C1_ := Aside0.mk (Kd.C_below C3.out (below_drew (Below.refl _ _)))
      have D1_ := Aside0.mk (show Kd.C (Kd.int .i64) wr.drew (if c3 = i then A3 else Option.map (fun x => x.add i) A3) (l.length - i) (l.drop i) by have h_ := Kd.C_drop (m := i) (c := c3) C1_.out (by have := LI.out; omega) L3.out; rw [List.length_drop, show i * (Kd.int .i64).sz = i from Nat.mul_one i] at h_; exact h_)
      have D2_ := Aside0.mk (show Kd.C (Kd.int .i64) wr.drew A3 i (l.take i) by have h_ := Kd.C_take (m := i) C1_.out (by have := LI.out; omega); rw [show (l.take i).length = i by rw [List.length_take]; have := LI.out; omega] at h_; exact h_)
      have CT := Aside0.mk (impl_turnedFirst.two (c1 := c3 - i) (c2 := c3) D1_.out D2_.out (by have := L3.out; omega) (by have := L3.out; have := LI.out; omega))
      have HK := Aside0.mk (show Calls Try.prog 58 #[.slice (some ⟨wr.heap.size, 0, none⟩) 2 2] (wr.alloc (.cells #[(.slice (if c3 = i then A3 else Option.map (fun x => x.add i) A3) (l.length - i) (c3 - i)), .slice A3 i c3] 23 (0, 0))).drew _ from slices_Concat_int_int.calls (some ⟨wr.heap.size, 0, none⟩) 2 [l.drop i, l.take i] own _ CT.out (by simp) A1.out)
      refine hK.out _ _ trivial (fun hHeld => ?_)
      clear hK K
      refine norm_ (a' := ?_) ?_ ?_
      rotate_left
      ·show Act.put _ (some 34) _ = _
       simp only [Act.put, List.setIfInBounds_toArray, List.set_cons_zero, List.set_cons_succ, i64_w, i32_w]
       rfl
      refine one_ (i := 7) (N := some 35) #[true, true, true, true, true, true, true, true, false] rfl rfl (by kernel_rfl) (by decide) (fun K hK => ?_)
      refine goes_ Try.func58 (by kernel_rfl) rfl #[.slice (some ⟨wr.heap.size, 0, none⟩) 2 2] (by rfl) rfl rfl (by simp only [List.map_toArray, List.map_cons, List.map_nil]; rfl) ?_
      with_reducible refine (HK.out).mono ?_
      rintro e w3 ⟨v35, rfl, hr, hb⟩
      refine ⟨_, rfl, ?_⟩
      have B3 := Aside0.mk (below_step (below_alloc (below_drew (Below.refl _ _)) _ : Below wr.heap.size wr _) hb)
      have HO := Aside0.mk hr
      clear hr hb
      refine hK.out _ _ trivial (fun hHeld => ?_)
      clear hK K
      refine norm_ (a' := ?_) ?_ ?_
      rotate_left
      ·show Act.put _ (some 35) _ = _
       simp only [Act.put, List.setIfInBounds_toArray, List.set_cons_zero, List.set_cons_succ, i64_w, i32_w]
       rfl
      refine pure_ (i := 8) (N := some 8) (v := ?_) (a' := ?_) #[true, true, true, true, true, true, true, true, true] rfl rfl (by kernel_rfl) (fun _ _ _ h => h) (Or.inl ⟨by rfl, ?_⟩) ?_ ?_
      rotate_left
      ·intro w'
       go_simp
       with_reducible rfl
      rotate_left
      ·simp only [Act.put, List.setIfInBounds_toArray, List.set_cons_zero, List.set_cons_succ, i64_w, i32_w]
       rfl
      refine done_ (by kernel_rfl) ?_
      by_cases c7 : c < 0
      ·rw [if_pos c7] at H2
       have c7b : decide (c < 0) = true := decide_eq_true c7
       have H2 := Aside0.mk H2
       clear c7
       generalize (if c3 = i then A3 else Option.map (fun x => x.add i) A3) = A30_
       obtain ⟨A8, c8, e8_⟩ := Kd.R_slice HO.out
       subst e8_
       have CB := Aside0.mk (Kd.C_below HS.out.1 B3.out)
       have COwn := Aside0.mk (Kd.R_reads' HO.out).2
       have HBn := Aside0.mk (below_step HB.out B3.out)
       have C3n := Aside0.mk (Kd.C_below C3.out B3.out)
       go_wp2_with (first | (go_at_call 36; ((with_reducible refine (slices_Compare_int_int.calls k1 A8 c8 own A6 c6 bst c _ COwn.out.2 COwn.out.1 CB.out HS.out.2 A2.out).mono ?_); rintro e w5 ⟨rfl, ⟨nd, rfl⟩⟩)))
       go_roundg k1
       case measure => omega
       case rel => exact ⟨own, i + 1, _, _, rfl, by first | rfl | rw [HW.out], ⟨Kd.C_below COwn.out.2 (pw_below_drewN (Below.refl _ _) nd), COwn.out.1⟩, H2, ⟨pw_below_drewN HBn.out nd⟩, ⟨Kd.C_below C3n.out (pw_below_drewN (Below.refl _ _) nd)⟩⟩
      ·rw [if_neg c7] at H2
       have c7b : decide (c < 0) = false := decide_eq_false c7
       have H2 := Aside0.mk H2
       clear c7
       generalize (if c3 = i then A3 else Option.map (fun x => x.add i) A3) = A30_
       obtain ⟨A8, c8, e8_⟩ := Kd.R_slice HO.out
       subst e8_
       have CB := Aside0.mk (Kd.C_below HS.out.1 B3.out)
       have COwn := Aside0.mk (Kd.R_reads' HO.out).2
       have HBn := Aside0.mk (below_step HB.out B3.out)
       have C3n := Aside0.mk (Kd.C_below C3.out B3.out)
       go_wp2_with (first | (go_at_call 36; ((with_reducible refine (slices_Compare_int_int.calls k1 A8 c8 own A6 c6 bst c _ COwn.out.2 COwn.out.1 CB.out HS.out.2 A2.out).mono ?_); rintro e w5 ⟨rfl, ⟨nd, rfl⟩⟩)))
       go_roundg k1
       case measure => omega
       case rel => exact ⟨bst, i + 1, _, _, rfl, by first | rfl | rw [HW.out], ⟨Kd.C_below CB.out (pw_below_drewN (Below.refl _ _) nd), HS.out.2⟩, H2, ⟨pw_below_drewN HBn.out nd⟩, ⟨Kd.C_below C3n.out (pw_below_drewN (Below.refl _ _) nd)⟩⟩
     ·rw [if_neg c5] at H
      have c5b0 : decide ((i : Int) < (l.length : Int)) = false := decide_eq_false (by omega)
      have c5b1 : decide (i < l.length) = false := decide_eq_false c5
      obtain rfl := Option.some.inj H
      clear H c5
      go_wp2_with (first | (go_at_call 59; ((with_reducible refine (slices_Clone_int_int.calls A6 c6 bst r _ HS.out.1 HS.out.2 HC.out).mono ?_); rintro e w4 ⟨v2, rfl, hr, hb⟩; have HR := Aside0.mk (Kd.R_lower hr (below_size HB.out)); have m0_ := Aside0.mk (below_step HB.out hb); clear HB hb hr; have HB := m0_; clear m0_)))
      go_ret
      exact ⟨v2, rfl, HR.out, HB.out⟩

-- NOT PRINTED: function 84 (slices_insertionSortCmpFunc_int)

-- NOT PRINTED: function 103 (slices_siftDownCmpFunc_int)

-- NOT PRINTED: function 85 (slices_heapSortCmpFunc_int)

-- NOT PRINTED: function 105 (slices_xorshift_Next)

-- NOT PRINTED: function 86 (slices_breakPatternsCmpFunc_int)

-- NOT PRINTED: function 119 (slices_order2CmpFunc_int)

-- NOT PRINTED: function 107 (slices_medianCmpFunc_int)

-- NOT PRINTED: function 106 (slices_medianAdjacentCmpFunc_int)

-- NOT PRINTED: function 87 (slices_choosePivotCmpFunc_int)

-- NOT PRINTED: function 88 (slices_reverseRangeCmpFunc_int)

-- NOT PRINTED: function 89 (slices_partialInsertionSortCmpFunc_int)

-- NOT PRINTED: function 90 (slices_partitionEqualCmpFunc_int)

-- NOT PRINTED: function 91 (slices_partitionCmpFunc_int)

-- NOT PRINTED: function 60 (slices_pdqsortCmpFunc_int)

-- NOT PRINTED: function 35 (slices_SortFunc_int_int)

end Go.Proofs.Ytmkcmclochhkeaa.PFnExactPairCycles
