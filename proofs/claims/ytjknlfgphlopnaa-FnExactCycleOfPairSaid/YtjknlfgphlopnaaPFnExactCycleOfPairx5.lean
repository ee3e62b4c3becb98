-- Written by this session's pp.py over the kit's print.
import Derived.Test.YtjknlfgphlopnaaPFnExactCycleOfPairx0
import Derived.Test.YtjknlfgphlopnaaPFnExactCycleOfPairx1
import Derived.Test.YtjknlfgphlopnaaPFnExactCycleOfPairx4
namespace Go.Proofs.Ytjknlfgphlopnaa.PFnExactCycleOfPair
open Go.RowKit Go.Proofs.YtjknlfgphlopnaaW.PrintWords Go.Proofs.YtjknlfgphlopnaaW.PrintLast Go.Proofs.YtjknlfgphlopnaaW.PrintMore
attribute [local go_sem] max2_int min2_int max_two min_two max_three min_three max_four min_four   -- for this text's walks alone
set_option linter.unusedVariables false
set_option linter.unusedSimpArgs false

attribute [local go_sem high] eqA93
/-! ### spec_sdMeet: function 77 -/
mutual
def spec_sdMeet.l0 : Nat → Int → Int → Int → Int → Int → Int → Int → Bool → Int → Int → Int → Int → Int → Int → Option (Int × Int × Int × Int)
 | 0, _, _, _, _, _, _, _, _, _, _, _, _, _, _ => none
 | k + 1, x2, x11, x151000, x151001, x151002, x151003, x151004, x151005, x152000, x152001, x160000, x160001, x161000, x161001 => if (!(x160000 == x161000) || (!(x160001 == x161001))) = true then (if x11 > 40000 then (some (0, x152000, x152001, 0)) else ((spec_sdNext.f k x151000 x151001 x151002 x151003 x151004 x151005 x160000 x160001 x2).bind fun bt161 => ((spec_sdNext.f k x151000 x151001 x151002 x151003 x151004 x151005 x161000 x161001 x2).bind fun bt163 => ((spec_sdNext.f k x151000 x151001 x151002 x151003 x151004 x151005 bt163.1 bt163.2 x2).bind fun bt165 => (spec_sdMeet.l0 k x2 (wrap64 (x11 + 1)) x151000 x151001 x151002 x151003 x151004 x151005 x152000 x152001 bt161.1 bt161.2 bt165.1 bt165.2))))) else (spec_sdMeet.l1 k x2 0 x151000 x151001 x151002 x151003 x151004 x151005 x152000 x152001 x152000 x152001 x161000 x161001)
def spec_sdMeet.l1 : Nat → Int → Int → Int → Int → Int → Int → Int → Bool → Int → Int → Int → Int → Int → Int → Option (Int × Int × Int × Int)
 | 0, _, _, _, _, _, _, _, _, _, _, _, _, _, _ => none
 | k + 1, x2, x12, x151000, x151001, x151002, x151003, x151004, x151005, x152000, x152001, x160000, x160001, x161000, x161001 => if (!(x160000 == x161000) || (!(x160001 == x161001))) = true then ((spec_sdNext.f k x151000 x151001 x151002 x151003 x151004 x151005 x160000 x160001 x2).bind fun bt167 => ((spec_sdNext.f k x151000 x151001 x151002 x151003 x151004 x151005 x161000 x161001 x2).bind fun bt169 => (spec_sdMeet.l1 k x2 (wrap64 (x12 + 1)) x151000 x151001 x151002 x151003 x151004 x151005 x152000 x152001 bt167.1 bt167.2 bt169.1 bt169.2))) else ((spec_sdNext.f k x151000 x151001 x151002 x151003 x151004 x151005 x160000 x160001 x2).bind fun bt171 => (spec_sdMeet.l2 k x2 x12 1 x151000 x151001 x151002 x151003 x151004 x151005 x152000 x152001 x160000 x160001 bt171.1 bt171.2))
def spec_sdMeet.l2 : Nat → Int → Int → Int → Int → Int → Int → Int → Int → Bool → Int → Int → Int → Int → Int → Int → Option (Int × Int × Int × Int)
 | 0, _, _, _, _, _, _, _, _, _, _, _, _, _, _, _ => none
 | k + 1, x2, x12, x13, x151000, x151001, x151002, x151003, x151004, x151005, x152000, x152001, x160000, x160001, x161000, x161001 => if (!(x161000 == x160000) || (!(x161001 == x160001))) = true then (if (wrap64 (x13 + 1)) > 20000 then (some (0, x152000, x152001, 0)) else ((spec_sdNext.f k x151000 x151001 x151002 x151003 x151004 x151005 x161000 x161001 x2).bind fun bt173 => (spec_sdMeet.l2 k x2 x12 (wrap64 (x13 + 1)) x151000 x151001 x151002 x151003 x151004 x151005 x152000 x152001 x160000 x160001 bt173.1 bt173.2))) else (if (wrap64 (x12 + x13)) > 20000 then (some (0, x152000, x152001, 0)) else (some (x12, x160000, x160001, x13)))
end
def spec_sdMeet.f (k : Nat) (a0_0 : Int) (a0_1 : Int) (a0_2 : Int) (a0_3 : Int) (a0_4 : Int) (a0_5 : Bool) (a1_0 : Int) (a1_1 : Int) (a2 : Int) : Option (Int × Int × Int × Int) := (spec_sdNext.f k a0_0 a0_1 a0_2 a0_3 a0_4 a0_5 a1_0 a1_1 a2).bind fun bt153 => ((spec_sdNext.f k a0_0 a0_1 a0_2 a0_3 a0_4 a0_5 a1_0 a1_1 a2).bind fun bt155 => ((spec_sdNext.f k a0_0 a0_1 a0_2 a0_3 a0_4 a0_5 bt155.1 bt155.2 a2).bind fun bt157 => (spec_sdMeet.l0 k a2 1 a0_0 a0_1 a0_2 a0_3 a0_4 a0_5 a1_0 a1_1 bt153.1 bt153.2 bt157.1 bt157.2)))
theorem bN {w : World} {g : Nat} {o : Obj} (h : w.heap[g]? = some o) (n : Nat) : (w.drewN n).heap[g]? = some o := h
theorem bD {w : World} {g : Nat} {o : Obj} (h : w.heap[g]? = some o) : w.drew.heap[g]? = some o := h
theorem bA {w : World} {g : Nat} {o : Obj} (h : w.heap[g]? = some o) (o' : Obj) : (w.alloc o').heap[g]? = some o := blk_alloc h o'
theorem zA {w W : World} (h : Below w.heap.size w W) (o : Obj) : Below w.heap.size w (W.alloc o) := h.alloc h.size o
theorem zN {B : Nat} {w W : World} (h : Below B w W) (n : Nat) : Below B w (W.drewN n) := ⟨h.os, h.tape, h.output, h.size, h.block⟩
theorem zD {base : Nat} {w W : World} (h : Below base w W) : Below base w W.drew := h.drew
theorem zS {w W : World} {g j : Nat} {v : Value} (h : Below w.heap.size w W) (hg : w.heap.size ≤ g) : Below w.heap.size w (W.setCell ⟨g, j, none⟩ v) := h.setCell hg _
theorem bB {w w1 : World} {g : Nat} {o : Obj} (h : w.heap[g]? = some o) (hb : Below w.heap.size w w1) : w1.heap[g]? = some o := blk_below h hb
theorem aM {p : Prop} (h : p) : Aside0 p := ⟨h⟩
theorem spec_sdMeet.mono_l : ∀ k, (∀ y0 y1 y2 y3 y4 y5 y6 y7 y8 y9 y10 y11 y12 y13, LeO (spec_sdMeet.l0 k y0 y1 y2 y3 y4 y5 y6 y7 y8 y9 y10 y11 y12 y13) (spec_sdMeet.l0 (k + 1) y0 y1 y2 y3 y4 y5 y6 y7 y8 y9 y10 y11 y12 y13)) ∧ (∀ y0 y1 y2 y3 y4 y5 y6 y7 y8 y9 y10 y11 y12 y13, LeO (spec_sdMeet.l1 k y0 y1 y2 y3 y4 y5 y6 y7 y8 y9 y10 y11 y12 y13) (spec_sdMeet.l1 (k + 1) y0 y1 y2 y3 y4 y5 y6 y7 y8 y9 y10 y11 y12 y13)) ∧ (∀ y0 y1 y2 y3 y4 y5 y6 y7 y8 y9 y10 y11 y12 y13 y14, LeO (spec_sdMeet.l2 k y0 y1 y2 y3 y4 y5 y6 y7 y8 y9 y10 y11 y12 y13 y14) (spec_sdMeet.l2 (k + 1) y0 y1 y2 y3 y4 y5 y6 y7 y8 y9 y10 y11 y12 y13 y14))
 | 0 => ⟨fun _ _ _ _ _ _ _ _ _ _ _ _ _ _ r h => by simp [spec_sdMeet.l0] at h, fun _ _ _ _ _ _ _ _ _ _ _ _ _ _ r h => by simp [spec_sdMeet.l1] at h, fun _ _ _ _ _ _ _ _ _ _ _ _ _ _ _ r h => by simp [spec_sdMeet.l2] at h⟩
 | k + 1 => by
  obtain ⟨ih0, ih1, ih2⟩ := spec_sdMeet.mono_l k
  refine ⟨?_, ?_, ?_⟩
  ·intro y0 y1 y2 y3 y4 y5 y6 y7 y8 y9 y10 y11 y12 y13
   unfold spec_sdMeet.l0
   repeat' first
   | (with_reducible exact ih0 _ _ _ _ _ _ _ _ _ _ _ _ _ _)
   | (with_reducible exact ih1 _ _ _ _ _ _ _ _ _ _ _ _ _ _)
   | (with_reducible exact ih2 _ _ _ _ _ _ _ _ _ _ _ _ _ _ _)
   | (with_reducible exact spec_sdNext.mono _ _ _ _ _ _ _ _ _ _)
   | (with_reducible exact LeO.refl _)
   | (with_reducible exact LeO.none _)
   | (with_reducible refine LeO.ite ?_ ?_)
   | (with_reducible refine LeO.bind ?_ (fun _ => ?_))
   | exact ih0 _ _ _ _ _ _ _ _ _ _ _ _ _ _
   | exact ih1 _ _ _ _ _ _ _ _ _ _ _ _ _ _
   | exact ih2 _ _ _ _ _ _ _ _ _ _ _ _ _ _ _
   | exact spec_sdNext.mono _ _ _ _ _ _ _ _ _ _
   | exact LeO.none _
   | refine LeO.ite ?_ ?_
   | refine LeO.bind ?_ (fun _ => ?_)
  ·intro y0 y1 y2 y3 y4 y5 y6 y7 y8 y9 y10 y11 y12 y13
   unfold spec_sdMeet.l1
   repeat' first
   | (with_reducible exact ih0 _ _ _ _ _ _ _ _ _ _ _ _ _ _)
   | (with_reducible exact ih1 _ _ _ _ _ _ _ _ _ _ _ _ _ _)
   | (with_reducible exact ih2 _ _ _ _ _ _ _ _ _ _ _ _ _ _ _)
   | (with_reducible exact spec_sdNext.mono _ _ _ _ _ _ _ _ _ _)
   | (with_reducible exact LeO.refl _)
   | (with_reducible exact LeO.none _)
   | (with_reducible refine LeO.ite ?_ ?_)
   | (with_reducible refine LeO.bind ?_ (fun _ => ?_))
   | exact ih0 _ _ _ _ _ _ _ _ _ _ _ _ _ _
   | exact ih1 _ _ _ _ _ _ _ _ _ _ _ _ _ _
   | exact ih2 _ _ _ _ _ _ _ _ _ _ _ _ _ _ _
   | exact spec_sdNext.mono _ _ _ _ _ _ _ _ _ _
   | exact LeO.none _
   | refine LeO.ite ?_ ?_
   | refine LeO.bind ?_ (fun _ => ?_)
  ·intro y0 y1 y2 y3 y4 y5 y6 y7 y8 y9 y10 y11 y12 y13 y14
   unfold spec_sdMeet.l2
   repeat' first
   | (with_reducible exact ih0 _ _ _ _ _ _ _ _ _ _ _ _ _ _)
   | (with_reducible exact ih1 _ _ _ _ _ _ _ _ _ _ _ _ _ _)
   | (with_reducible exact ih2 _ _ _ _ _ _ _ _ _ _ _ _ _ _ _)
   | (with_reducible exact spec_sdNext.mono _ _ _ _ _ _ _ _ _ _)
   | (with_reducible exact LeO.refl _)
   | (with_reducible exact LeO.none _)
   | (with_reducible refine LeO.ite ?_ ?_)
   | (with_reducible refine LeO.bind ?_ (fun _ => ?_))
   | exact ih0 _ _ _ _ _ _ _ _ _ _ _ _ _ _
   | exact ih1 _ _ _ _ _ _ _ _ _ _ _ _ _ _
   | exact ih2 _ _ _ _ _ _ _ _ _ _ _ _ _ _ _
   | exact spec_sdNext.mono _ _ _ _ _ _ _ _ _ _
   | exact LeO.none _
   | refine LeO.ite ?_ ?_
   | refine LeO.bind ?_ (fun _ => ?_)
theorem spec_sdMeet.mono : ∀ a0 a1 a2 a3 a4 a5 a6 a7 a8 k, LeO (spec_sdMeet.f k a0 a1 a2 a3 a4 a5 a6 a7 a8) (spec_sdMeet.f (k + 1) a0 a1 a2 a3 a4 a5 a6 a7 a8) := by
 intro a0 a1 a2 a3 a4 a5 a6 a7 a8 k
 obtain ⟨ih0, ih1, ih2⟩ := spec_sdMeet.mono_l k
 unfold spec_sdMeet.f
 repeat' first
   | (with_reducible exact ih0 _ _ _ _ _ _ _ _ _ _ _ _ _ _)
   | (with_reducible exact ih1 _ _ _ _ _ _ _ _ _ _ _ _ _ _)
   | (with_reducible exact ih2 _ _ _ _ _ _ _ _ _ _ _ _ _ _ _)
   | (with_reducible exact spec_sdNext.mono _ _ _ _ _ _ _ _ _ _)
   | (with_reducible exact LeO.refl _)
   | (with_reducible exact LeO.none _)
   | (with_reducible refine LeO.ite ?_ ?_)
   | (with_reducible refine LeO.bind ?_ (fun _ => ?_))
   | exact ih0 _ _ _ _ _ _ _ _ _ _ _ _ _ _
   | exact ih1 _ _ _ _ _ _ _ _ _ _ _ _ _ _
   | exact ih2 _ _ _ _ _ _ _ _ _ _ _ _ _ _ _
   | exact spec_sdNext.mono _ _ _ _ _ _ _ _ _ _
   | exact LeO.none _
   | refine LeO.ite ?_ ?_
   | refine LeO.bind ?_ (fun _ => ?_)
def spec_sdMeet.T1 : Bool × List (List Nat × List Nat) := (true, [([], []), ([], []), ([], []), ([0, 1, 2], [0, 1, 2]), ([], []), ([], []), ([], []), ([], []), ([5, 6, 7, 3], [5, 6, 7]), ([], []), ([4, 8, 9, 8], [4, 8, 9]), ([], []), ([], []), ([11, 3, 10, 0, 1, 2, 3, 11, 12], [3, 11]), ([12, 10, 13, 0, 1, 2, 3, 4, 5, 6, 7, 8, 9, 10, 11, 12, 13], [10, 12])])
def spec_sdMeet.B1 : List Nat := [0, 0, 0, 7, 0, 0, 0, 0, 239, 0, 1023, 0, 0, 8191, 16383]
theorem spec_sdMeet.tab1 : rtab .any (opsOf Try.f77 1) = spec_sdMeet.T1 := by kernel_rfl
theorem spec_sdMeet.bits1 : waitsOk spec_sdMeet.T1.2 spec_sdMeet.B1 = true := by kernel_rfl
def spec_sdMeet.T8 : Bool × List (List Nat × List Nat) := (true, [([], []), ([], []), ([], []), ([], []), ([1, 2, 3], [1, 2, 3]), ([], []), ([0, 4, 5, 4], [0, 4, 5]), ([6, 6, 0, 1, 2, 3, 4, 5, 6], [6])])
def spec_sdMeet.B8 : List Nat := [0, 0, 0, 0, 14, 0, 63, 127]
theorem spec_sdMeet.tab8 : rtab .any (opsOf Try.f77 8) = spec_sdMeet.T8 := by kernel_rfl
theorem spec_sdMeet.bits8 : waitsOk spec_sdMeet.T8.2 spec_sdMeet.B8 = true := by kernel_rfl
set_option maxHeartbeats 8000000 in
set_option maxRecDepth 100000 in
theorem spec_sdMeet.calls (k : Nat) (P : Int) (R : Int) (U : Int) (V : Int) (X : Int) (Y : Bool) (b1 : Int) (b2 : Int) (a2 : Int) (r1 : Int) (r2 : Int) (r3 : Int) (r4 : Int) (w : World) (h : spec_sdMeet.f k P R U V X Y b1 b2 a2 = some (r1, r2, r3, r4)) :
  Calls Try.prog 77 #[.agg #[.int .i64 P, .int .i64 R, .int .i64 U, .int .i64 V, .int .i64 X, .bool Y], .agg #[.int .i64 b1, .int .i64 b2], .int .i64 a2] w fun e w' => e = .returned (.tuple #[.int .i64 r1, .agg #[.int .i64 r2, .int .i64 r3], .int .i64 r4]) ∧ Below w.heap.size w w' := by
 have hu40 := Try.underlying40
 have hu93 := Try.underlying93
 have HB := aM (Below.refl w.heap.size w)
 have H : ((spec_sdNext.f k P R U V X Y b1 b2 a2).bind fun bt153 => ((spec_sdNext.f k P R U V X Y b1 b2 a2).bind fun bt155 => ((spec_sdNext.f k P R U V X Y bt155.1 bt155.2 a2).bind fun bt157 => (spec_sdMeet.l0 k a2 1 P R U V X Y b1 b2 bt153.1 bt153.2 bt157.1 bt157.2)))) = some (r1, r2, r3, r4) := h
 clear h
 replace H := Option.bind_eq_some_iff.mp H
 obtain ⟨⟨f3, f6⟩, A40, H⟩ := H
 replace H : ((spec_sdNext.f k P R U V X Y b1 b2 a2).bind fun bt155 => ((spec_sdNext.f k P R U V X Y bt155.1 bt155.2 a2).bind fun bt157 => (spec_sdMeet.l0 k a2 1 P R U V X Y b1 b2 f3 f6 bt157.1 bt157.2))) = some (r1, r2, r3, r4) := H
 have A4 := aM A40
 clear A40
 replace H := Option.bind_eq_some_iff.mp H
 obtain ⟨⟨f4, f5⟩, A50, H⟩ := H
 replace H : ((spec_sdNext.f k P R U V X Y f4 f5 a2).bind fun bt157 => (spec_sdMeet.l0 k a2 1 P R U V X Y b1 b2 f3 f6 bt157.1 bt157.2)) = some (r1, r2, r3, r4) := H
 have A5 := aM A50
 clear A50
 replace H := Option.bind_eq_some_iff.mp H
 obtain ⟨⟨g1, g2⟩, A60, H⟩ := H
 replace H : (spec_sdMeet.l0 k a2 1 P R U V X Y b1 b2 f3 f6 g1 g2) = some (r1, r2, r3, r4) := H
 have A6 := aM A60
 clear A60
 have H' := aM H
 clear H
 go_enter Try.func77, Try.ntmps77
 try go_wp2_with (first | ((with_reducible refine gate_dst (N := 3) rfl ?_); refine box_event ?hg (N := 3) ?hd (cs := #[.int .i64 P, .int .i64 R, .int .i64 U, .int .i64 V, .int .i64 X, .bool Y]) (t := 40) ?hr ?_; (case hd => rfl); (case hg => rfl); (case hr => first | (go_simp; done) | (go_simp; rfl)); intro d hg w7 hbox hb; have n0_ := aM (below_step (by repeat (first | exact HB.out | apply zA | apply zN | apply zD)) hb); have n1_ := aM (hbox); have n2_ := aM ((by rw [hg]; exact (below_size (by repeat (first | exact HB.out | apply zA | apply zN | apply zD))) : w.heap.size ≤ d)); have n3_ := aM ((by rw [hg]; exact (below_size (by repeat (first | exact HB.out | apply zA | apply zN | apply zD))) : w.heap.size ≤ d)); clear HB; have HB := n0_; have c := n1_; have h5 := n2_; have b3 := n3_; clear n0_ n1_ n2_ n3_; clear hb hbox hg) | ((with_reducible refine gate_dst (N := 4) rfl ?_); refine box_event ?hg (N := 4) ?hd (cs := #[.int .i64 b1, .int .i64 b2]) (t := 93) ?hr ?_; (case hd => rfl); (case hg => rfl); (case hr => first | (go_simp; done) | (go_simp; rfl)); intro s hg w8 hbox hb; have n0_ := aM (bB (g := d) (o := .cells #[.int .i64 P, .int .i64 R, .int .i64 U, .int .i64 V, .int .i64 X, .bool Y] 40 (0, 0)) (by (with_reducible repeat (first | apply bN | apply bD | apply bA)); exact c.out) hb); have n1_ := aM (below_step (by repeat (first | (with_reducible first | exact HB.out | apply zA | apply zN | apply zD | refine zS ?_ b3.out) | exact HB.out)) hb); have n2_ := aM (hbox); have n3_ := aM ((by rw [hg]; exact (below_size (by repeat (first | (with_reducible first | exact HB.out | apply zA | apply zN | apply zD | refine zS ?_ b3.out) | exact HB.out))) : w.heap.size ≤ s)); have n4_ := aM ((by rw [hg]; exact (below_size (by repeat (first | (with_reducible first | exact HB.out | apply zA | apply zN | apply zD | refine zS ?_ b3.out) | exact HB.out))) : w.heap.size ≤ s)); have n5_ := aM ((by rw [hg]; exact Nat.ne_of_lt (blk_lt (g := d) (o := .cells #[.int .i64 P, .int .i64 R, .int .i64 U, .int .i64 V, .int .i64 X, .bool Y] 40 (0, 0)) (by (with_reducible repeat (first | apply bN | apply bD | apply bA)); exact c.out)) : d ≠ s)); have n6_ := aM ((by rw [hg]; exact Nat.ne_of_gt (blk_lt (g := d) (o := .cells #[.int .i64 P, .int .i64 R, .int .i64 U, .int .i64 V, .int .i64 X, .bool Y] 40 (0, 0)) (by (with_reducible repeat (first | apply bN | apply bD | apply bA)); exact c.out)) : s ≠ d)); clear c; clear HB; have c := n0_; have HB := n1_; have m := n2_; have h6 := n3_; have b5 := n4_; have f7 := n5_; have f8 := n6_; clear n0_ n1_ n2_ n3_ n4_ n5_ n6_; clear hb hbox hg) | ((with_reducible refine gate_dst (N := 7) rfl ?_); refine box_event ?hg (N := 7) ?hd (cs := #[.int .i64 0, .int .i64 0]) (t := 93) ?hr ?_; (case hd => rfl); (case hg => rfl); (case hr => first | (go_simp; done) | (go_simp; rfl)); intro z hg w9 hbox hb; have n0_ := aM (bB (g := d) (o := .cells #[.int .i64 P, .int .i64 R, .int .i64 U, .int .i64 V, .int .i64 X, .bool Y] 40 (0, 0)) (by (with_reducible repeat (first | apply bN | apply bD | apply bA)); exact c.out) hb); have n1_ := aM (bB (g := s) (o := .cells #[.int .i64 b1, .int .i64 b2] 93 (0, 0)) (by (with_reducible repeat (first | apply bN | apply bD | apply bA)); exact m.out) hb); have n2_ := aM (below_step (by repeat (first | (with_reducible first | exact HB.out | apply zA | apply zN | apply zD | refine zS ?_ b3.out | refine zS ?_ b5.out) | exact HB.out)) hb); have n3_ := aM (hbox); have n4_ := aM ((by rw [hg]; exact (below_size (by repeat (first | (with_reducible first | exact HB.out | apply zA | apply zN | apply zD | refine zS ?_ b3.out | refine zS ?_ b5.out) | exact HB.out))) : w.heap.size ≤ z)); have n5_ := aM ((by rw [hg]; exact (below_size (by repeat (first | (with_reducible first | exact HB.out | apply zA | apply zN | apply zD | refine zS ?_ b3.out | refine zS ?_ b5.out) | exact HB.out))) : w.heap.size ≤ z)); have n6_ := aM ((by rw [hg]; exact Nat.ne_of_lt (blk_lt (g := d) (o := .cells #[.int .i64 P, .int .i64 R, .int .i64 U, .int .i64 V, .int .i64 X, .bool Y] 40 (0, 0)) (by (with_reducible repeat (first | apply bN | apply bD | apply bA)); exact c.out)) : d ≠ z)); have n7_ := aM ((by rw [hg]; exact Nat.ne_of_gt (blk_lt (g := d) (o := .cells #[.int .i64 P, .int .i64 R, .int .i64 U, .int .i64 V, .int .i64 X, .bool Y] 40 (0, 0)) (by (with_reducible repeat (first | apply bN | apply bD | apply bA)); exact c.out)) : z ≠ d)); have n8_ := aM ((by rw [hg]; exact Nat.ne_of_lt (blk_lt (g := s) (o := .cells #[.int .i64 b1, .int .i64 b2] 93 (0, 0)) (by (with_reducible repeat (first | apply bN | apply bD | apply bA)); exact m.out)) : s ≠ z)); have n9_ := aM ((by rw [hg]; exact Nat.ne_of_gt (blk_lt (g := s) (o := .cells #[.int .i64 b1, .int .i64 b2] 93 (0, 0)) (by (with_reducible repeat (first | apply bN | apply bD | apply bA)); exact m.out)) : z ≠ s)); clear c; clear m; clear HB; have c := n0_; have m := n1_; have HB := n2_; have y := n3_; have h7 := n4_; have b9 := n5_; have e9 := n6_; have f0 := n7_; have d5 := n8_; have f2 := n9_; clear n0_ n1_ n2_ n3_ n4_ n5_ n6_ n7_ n8_ n9_; clear hb hbox hg))
 have n0_ := aM (bD c.out)
 have n1_ := aM (bD m.out)
 have n2_ := aM (bD y.out)
 have n3_ := aM (zD HB.out)
 clear c
 clear m
 clear y
 clear HB
 have c := n0_
 have m := n1_
 have y := n2_
 have HB := n3_
 clear n0_ n1_ n2_ n3_
 refine start_ (n := 15) (S := fun w' => w'.cell? ⟨d, 0, none⟩ = some (.int .i64 P) ∧ w'.cell? ⟨d, 1, none⟩ = some (.int .i64 R) ∧ w'.cell? ⟨d, 2, none⟩ = some (.int .i64 U) ∧ w'.cell? ⟨d, 3, none⟩ = some (.int .i64 V) ∧ w'.cell? ⟨d, 4, none⟩ = some (.int .i64 X) ∧ w'.cell? ⟨d, 5, none⟩ = some (.bool Y) ∧ w'.cell? ⟨s, 0, none⟩ = some (.int .i64 b1) ∧ w'.cell? ⟨s, 1, none⟩ = some (.int .i64 b2)) (ds := []) #[false, false, false, false, false, false, false, false, false, false, false, false, false, false, false] (by kernel_rfl) rfl rfl ⟨(blk_cell c.out 0).trans rfl, (blk_cell c.out 1).trans rfl, (blk_cell c.out 2).trans rfl, (blk_cell c.out 3).trans rfl, (blk_cell c.out 4).trans rfl, (blk_cell c.out 5).trans rfl, (blk_cell m.out 0).trans rfl, (blk_cell m.out 1).trans rfl⟩ (fun hHeld => ?_); refine with_tabW spec_sdMeet.tab1 spec_sdMeet.bits1 (fun HT_ HW_ => ?_)
 generalize w9.drew = w10 at c m y HB hHeld ⊢
 refine pure_ (i := 2) (N := some 16) (v := ?_) (a' := ?_) #[false, false, true, false, false, false, false, false, false, false, false, false, false, false, false] rfl rfl (any_of HT_.out (by kernel_rfl)) (fun _ _ _ h => h) (Or.inl ⟨by rfl, ?_⟩) ?_ ?_
 rotate_left
 ·intro w'
  go_simp
  with_reducible rfl
 rotate_left
 ·simp only [Act.put, List.setIfInBounds_toArray, List.set_cons_zero, List.set_cons_succ, i64_w, i32_w]
  rfl
 refine pure_ (i := 7) (N := some 21) (v := ?_) (a' := ?_) #[false, false, true, false, false, false, false, true, false, false, false, false, false, false, false] rfl rfl (any_of HT_.out (by kernel_rfl)) (fun _ _ _ h => h) (Or.inl ⟨by rfl, ?_⟩) ?_ ?_
 rotate_left
 ·intro w'
  go_simp
  with_reducible rfl
 rotate_left
 ·simp only [Act.put, List.setIfInBounds_toArray, List.set_cons_zero, List.set_cons_succ, i64_w, i32_w]
  rfl
 refine pure_ (i := 9) (N := some 23) (v := ?_) (a' := ?_) #[false, false, true, false, false, false, false, true, false, true, false, false, false, false, false] rfl rfl (any_of HT_.out (by kernel_rfl)) (fun _ _ _ h => h) (Or.inl ⟨by rfl, ?_⟩) ?_ ?_
 rotate_left
 ·intro w'
  go_simp
  with_reducible rfl
 rotate_left
 ·simp only [Act.put, List.setIfInBounds_toArray, List.set_cons_zero, List.set_cons_succ, i64_w, i32_w]
  rfl
 refine take_ (i := 0) (N := some 14) (v := ?_) (a' := ?_) #[true, false, true, false, false, false, false, true, false, true, false, false, false, false, false] rfl rfl (take_ofW HT_.out HW_.out (by kernel_rfl)) (fun _ _ _ h => h) (Or.inl ⟨by rfl, ?_⟩) hHeld ?_ ?_
 rotate_left
 ·rintro w' ⟨s0, s1, s2, s3, s4, s5, s6, s7⟩
  go_simp
  with_reducible rfl
 rotate_left
 ·simp only [Act.put, List.setIfInBounds_toArray, List.set_cons_zero, List.set_cons_succ, i64_w, i32_w]
  rfl
 refine take_ (i := 1) (N := some 15) (v := ?_) (a' := ?_) #[true, true, true, false, false, false, false, true, false, true, false, false, false, false, false] rfl rfl (take_ofW HT_.out HW_.out (by kernel_rfl)) (fun _ _ _ h => h) (Or.inl ⟨by rfl, ?_⟩) hHeld ?_ ?_
 rotate_left
 ·rintro w' ⟨s0, s1, s2, s3, s4, s5, s6, s7⟩
  go_simp
  with_reducible rfl
 rotate_left
 ·simp only [Act.put, List.setIfInBounds_toArray, List.set_cons_zero, List.set_cons_succ, i64_w, i32_w]
  rfl
 refine take_ (i := 4) (N := some 18) (v := ?_) (a' := ?_) #[true, true, true, false, true, false, false, true, false, true, false, false, false, false, false] rfl rfl (take_ofW HT_.out HW_.out (by kernel_rfl)) (fun _ _ _ h => h) (Or.inl ⟨by rfl, ?_⟩) hHeld ?_ ?_
 rotate_left
 ·rintro w' ⟨s0, s1, s2, s3, s4, s5, s6, s7⟩
  go_simp
  with_reducible rfl
 rotate_left
 ·simp only [Act.put, List.setIfInBounds_toArray, List.set_cons_zero, List.set_cons_succ, i64_w, i32_w]
  rfl
 refine take_ (i := 5) (N := some 19) (v := ?_) (a' := ?_) #[true, true, true, false, true, true, false, true, false, true, false, false, false, false, false] rfl rfl (take_ofW HT_.out HW_.out (by kernel_rfl)) (fun _ _ _ h => h) (Or.inl ⟨by rfl, ?_⟩) hHeld ?_ ?_
 rotate_left
 ·rintro w' ⟨s0, s1, s2, s3, s4, s5, s6, s7⟩
  go_simp
  with_reducible rfl
 rotate_left
 ·simp only [Act.put, List.setIfInBounds_toArray, List.set_cons_zero, List.set_cons_succ, i64_w, i32_w]
  rfl
 refine take_ (i := 6) (N := some 20) (v := ?_) (a' := ?_) #[true, true, true, false, true, true, true, true, false, true, false, false, false, false, false] rfl rfl (take_ofW HT_.out HW_.out (by kernel_rfl)) (fun _ _ _ h => h) (Or.inl ⟨by rfl, ?_⟩) hHeld ?_ ?_
 rotate_left
 ·rintro w' ⟨s0, s1, s2, s3, s4, s5, s6, s7⟩
  go_simp
  with_reducible rfl
 rotate_left
 ·simp only [Act.put, List.setIfInBounds_toArray, List.set_cons_zero, List.set_cons_succ, i64_w, i32_w]
  rfl
 refine join_ (σ := Nat × Nat) 2 #[true, true, true, true, true, true, true, true, true, true, true, true, true, false, false] (fun s_ => [(17, .agg #[.int .i64 f3, .int .i64 f6]), (22, .agg #[.int .i64 f4, .int .i64 f5]), (24, .agg #[.int .i64 g1, .int .i64 g2]), (9, .pointer (some ⟨s_.1, 0, none⟩)), (10, .pointer (some ⟨s_.2, 0, none⟩))]) (fun s_ w' => (w'.cell? ⟨d, 0, none⟩ = some (.int .i64 P) ∧ w'.cell? ⟨d, 1, none⟩ = some (.int .i64 R) ∧ w'.cell? ⟨d, 2, none⟩ = some (.int .i64 U) ∧ w'.cell? ⟨d, 3, none⟩ = some (.int .i64 V) ∧ w'.cell? ⟨d, 4, none⟩ = some (.int .i64 X) ∧ w'.cell? ⟨d, 5, none⟩ = some (.bool Y) ∧ w'.cell? ⟨s, 0, none⟩ = some (.int .i64 b1) ∧ w'.cell? ⟨s, 1, none⟩ = some (.int .i64 b2)) ∧ (w'.heap[d]? = some (.cells #[.int .i64 P, .int .i64 R, .int .i64 U, .int .i64 V, .int .i64 X, .bool Y] 40 (0, 0))) ∧ (w'.heap[s]? = some (.cells #[.int .i64 b1, .int .i64 b2] 93 (0, 0))) ∧ (w'.heap[z]? = some (.cells #[.int .i64 0, .int .i64 0] 93 (0, 0))) ∧ (w'.heap[s_.1]? = some (.cells #[.int .i64 0, .int .i64 0] 93 (0, 0))) ∧ (w'.heap[s_.2]? = some (.cells #[.int .i64 0, .int .i64 0] 93 (0, 0))) ∧ (w.heap.size ≤ s_.1) ∧ (w.heap.size ≤ s_.1) ∧ (d ≠ s_.1) ∧ (s_.1 ≠ d) ∧ (s ≠ s_.1) ∧ (s_.1 ≠ s) ∧ (z ≠ s_.1) ∧ (s_.1 ≠ z) ∧ (s_.2 ≠ s_.1) ∧ (s_.1 ≠ s_.2) ∧ (w.heap.size ≤ s_.2) ∧ (w.heap.size ≤ s_.2) ∧ (d ≠ s_.2) ∧ (s_.2 ≠ d) ∧ (s ≠ s_.2) ∧ (s_.2 ≠ s) ∧ (z ≠ s_.2) ∧ (s_.2 ≠ z) ∧ (Below w.heap.size w w')) ?_ ?_
 rotate_left
 ·intro hJ3_8_10_11_12
  refine join_ (σ := Nat) 3 #[true, true, true, true, true, true, true, true, true, true, true, true, false, false, false] (fun s_ => [(17, .agg #[.int .i64 f3, .int .i64 f6]), (22, .agg #[.int .i64 f4, .int .i64 f5]), (24, .agg #[.int .i64 g1, .int .i64 g2]), (9, .pointer (some ⟨s_, 0, none⟩))]) (fun s_ w' => (w'.cell? ⟨d, 0, none⟩ = some (.int .i64 P) ∧ w'.cell? ⟨d, 1, none⟩ = some (.int .i64 R) ∧ w'.cell? ⟨d, 2, none⟩ = some (.int .i64 U) ∧ w'.cell? ⟨d, 3, none⟩ = some (.int .i64 V) ∧ w'.cell? ⟨d, 4, none⟩ = some (.int .i64 X) ∧ w'.cell? ⟨d, 5, none⟩ = some (.bool Y) ∧ w'.cell? ⟨s, 0, none⟩ = some (.int .i64 b1) ∧ w'.cell? ⟨s, 1, none⟩ = some (.int .i64 b2)) ∧ (w'.heap[d]? = some (.cells #[.int .i64 P, .int .i64 R, .int .i64 U, .int .i64 V, .int .i64 X, .bool Y] 40 (0, 0))) ∧ (w'.heap[s]? = some (.cells #[.int .i64 b1, .int .i64 b2] 93 (0, 0))) ∧ (w'.heap[z]? = some (.cells #[.int .i64 0, .int .i64 0] 93 (0, 0))) ∧ (w'.heap[s_]? = some (.cells #[.int .i64 0, .int .i64 0] 93 (0, 0))) ∧ (w.heap.size ≤ s_) ∧ (w.heap.size ≤ s_) ∧ (d ≠ s_) ∧ (s_ ≠ d) ∧ (s ≠ s_) ∧ (s_ ≠ s) ∧ (z ≠ s_) ∧ (s_ ≠ z) ∧ (Below w.heap.size w w')) ?_ ?_
  rotate_left
  ·intro hJ3_8_10_11
   refine join_ (σ := Nat) 3 #[true, true, true, true, true, true, true, true, true, true, true, false, true, false, false] (fun s_ => [(17, .agg #[.int .i64 f3, .int .i64 f6]), (22, .agg #[.int .i64 f4, .int .i64 f5]), (24, .agg #[.int .i64 g1, .int .i64 g2]), (10, .pointer (some ⟨s_, 0, none⟩))]) (fun s_ w' => (w'.cell? ⟨d, 0, none⟩ = some (.int .i64 P) ∧ w'.cell? ⟨d, 1, none⟩ = some (.int .i64 R) ∧ w'.cell? ⟨d, 2, none⟩ = some (.int .i64 U) ∧ w'.cell? ⟨d, 3, none⟩ = some (.int .i64 V) ∧ w'.cell? ⟨d, 4, none⟩ = some (.int .i64 X) ∧ w'.cell? ⟨d, 5, none⟩ = some (.bool Y) ∧ w'.cell? ⟨s, 0, none⟩ = some (.int .i64 b1) ∧ w'.cell? ⟨s, 1, none⟩ = some (.int .i64 b2)) ∧ (w'.heap[d]? = some (.cells #[.int .i64 P, .int .i64 R, .int .i64 U, .int .i64 V, .int .i64 X, .bool Y] 40 (0, 0))) ∧ (w'.heap[s]? = some (.cells #[.int .i64 b1, .int .i64 b2] 93 (0, 0))) ∧ (w'.heap[z]? = some (.cells #[.int .i64 0, .int .i64 0] 93 (0, 0))) ∧ (w'.heap[s_]? = some (.cells #[.int .i64 0, .int .i64 0] 93 (0, 0))) ∧ (w.heap.size ≤ s_) ∧ (w.heap.size ≤ s_) ∧ (d ≠ s_) ∧ (s_ ≠ d) ∧ (s ≠ s_) ∧ (s_ ≠ s) ∧ (z ≠ s_) ∧ (s_ ≠ z) ∧ (Below w.heap.size w w')) ?_ ?_
   rotate_left
   ·intro hJ3_8_10_12
    refine join_ (σ := Nat × Nat) 3 #[true, true, true, true, true, true, true, true, true, true, false, true, true, false, false] (fun s_ => [(17, .agg #[.int .i64 f3, .int .i64 f6]), (22, .agg #[.int .i64 f4, .int .i64 f5]), (9, .pointer (some ⟨s_.1, 0, none⟩)), (10, .pointer (some ⟨s_.2, 0, none⟩))]) (fun s_ w' => (w'.cell? ⟨d, 0, none⟩ = some (.int .i64 P) ∧ w'.cell? ⟨d, 1, none⟩ = some (.int .i64 R) ∧ w'.cell? ⟨d, 2, none⟩ = some (.int .i64 U) ∧ w'.cell? ⟨d, 3, none⟩ = some (.int .i64 V) ∧ w'.cell? ⟨d, 4, none⟩ = some (.int .i64 X) ∧ w'.cell? ⟨d, 5, none⟩ = some (.bool Y) ∧ w'.cell? ⟨s, 0, none⟩ = some (.int .i64 b1) ∧ w'.cell? ⟨s, 1, none⟩ = some (.int .i64 b2)) ∧ (w'.heap[d]? = some (.cells #[.int .i64 P, .int .i64 R, .int .i64 U, .int .i64 V, .int .i64 X, .bool Y] 40 (0, 0))) ∧ (w'.heap[s]? = some (.cells #[.int .i64 b1, .int .i64 b2] 93 (0, 0))) ∧ (w'.heap[z]? = some (.cells #[.int .i64 0, .int .i64 0] 93 (0, 0))) ∧ (w'.heap[s_.1]? = some (.cells #[.int .i64 0, .int .i64 0] 93 (0, 0))) ∧ (w'.heap[s_.2]? = some (.cells #[.int .i64 0, .int .i64 0] 93 (0, 0))) ∧ (w.heap.size ≤ s_.1) ∧ (w.heap.size ≤ s_.1) ∧ (d ≠ s_.1) ∧ (s_.1 ≠ d) ∧ (s ≠ s_.1) ∧ (s_.1 ≠ s) ∧ (z ≠ s_.1) ∧ (s_.1 ≠ z) ∧ (s_.2 ≠ s_.1) ∧ (s_.1 ≠ s_.2) ∧ (w.heap.size ≤ s_.2) ∧ (w.heap.size ≤ s_.2) ∧ (d ≠ s_.2) ∧ (s_.2 ≠ d) ∧ (s ≠ s_.2) ∧ (s_.2 ≠ s) ∧ (z ≠ s_.2) ∧ (s_.2 ≠ z) ∧ (Below w.heap.size w w')) ?_ ?_
    rotate_left
    ·intro hJ3_8_11_12
     refine join_ (σ := Unit) 4 #[true, true, true, true, true, true, true, true, true, true, true, false, false, false, false] (fun s_ => [(17, .agg #[.int .i64 f3, .int .i64 f6]), (22, .agg #[.int .i64 f4, .int .i64 f5]), (24, .agg #[.int .i64 g1, .int .i64 g2])]) (fun s_ w' => (w'.cell? ⟨d, 0, none⟩ = some (.int .i64 P) ∧ w'.cell? ⟨d, 1, none⟩ = some (.int .i64 R) ∧ w'.cell? ⟨d, 2, none⟩ = some (.int .i64 U) ∧ w'.cell? ⟨d, 3, none⟩ = some (.int .i64 V) ∧ w'.cell? ⟨d, 4, none⟩ = some (.int .i64 X) ∧ w'.cell? ⟨d, 5, none⟩ = some (.bool Y) ∧ w'.cell? ⟨s, 0, none⟩ = some (.int .i64 b1) ∧ w'.cell? ⟨s, 1, none⟩ = some (.int .i64 b2)) ∧ (w'.heap[d]? = some (.cells #[.int .i64 P, .int .i64 R, .int .i64 U, .int .i64 V, .int .i64 X, .bool Y] 40 (0, 0))) ∧ (w'.heap[s]? = some (.cells #[.int .i64 b1, .int .i64 b2] 93 (0, 0))) ∧ (w'.heap[z]? = some (.cells #[.int .i64 0, .int .i64 0] 93 (0, 0))) ∧ (Below w.heap.size w w')) ?_ ?_
     rotate_left
     ·intro hJ3_8_10
      refine join_ (σ := Nat) 4 #[true, true, true, true, true, true, true, true, true, true, false, true, false, false, false] (fun s_ => [(17, .agg #[.int .i64 f3, .int .i64 f6]), (22, .agg #[.int .i64 f4, .int .i64 f5]), (9, .pointer (some ⟨s_, 0, none⟩))]) (fun s_ w' => (w'.cell? ⟨d, 0, none⟩ = some (.int .i64 P) ∧ w'.cell? ⟨d, 1, none⟩ = some (.int .i64 R) ∧ w'.cell? ⟨d, 2, none⟩ = some (.int .i64 U) ∧ w'.cell? ⟨d, 3, none⟩ = some (.int .i64 V) ∧ w'.cell? ⟨d, 4, none⟩ = some (.int .i64 X) ∧ w'.cell? ⟨d, 5, none⟩ = some (.bool Y) ∧ w'.cell? ⟨s, 0, none⟩ = some (.int .i64 b1) ∧ w'.cell? ⟨s, 1, none⟩ = some (.int .i64 b2)) ∧ (w'.heap[d]? = some (.cells #[.int .i64 P, .int .i64 R, .int .i64 U, .int .i64 V, .int .i64 X, .bool Y] 40 (0, 0))) ∧ (w'.heap[s]? = some (.cells #[.int .i64 b1, .int .i64 b2] 93 (0, 0))) ∧ (w'.heap[z]? = some (.cells #[.int .i64 0, .int .i64 0] 93 (0, 0))) ∧ (w'.heap[s_]? = some (.cells #[.int .i64 0, .int .i64 0] 93 (0, 0))) ∧ (w.heap.size ≤ s_) ∧ (w.heap.size ≤ s_) ∧ (d ≠ s_) ∧ (s_ ≠ d) ∧ (s ≠ s_) ∧ (s_ ≠ s) ∧ (z ≠ s_) ∧ (s_ ≠ z) ∧ (Below w.heap.size w w')) ?_ ?_
      rotate_left
      ·intro hJ3_8_11
       refine join_ (σ := Nat) 4 #[true, true, true, true, true, true, true, true, true, true, false, false, true, false, false] (fun s_ => [(17, .agg #[.int .i64 f3, .int .i64 f6]), (22, .agg #[.int .i64 f4, .int .i64 f5]), (10, .pointer (some ⟨s_, 0, none⟩))]) (fun s_ w' => (w'.cell? ⟨d, 0, none⟩ = some (.int .i64 P) ∧ w'.cell? ⟨d, 1, none⟩ = some (.int .i64 R) ∧ w'.cell? ⟨d, 2, none⟩ = some (.int .i64 U) ∧ w'.cell? ⟨d, 3, none⟩ = some (.int .i64 V) ∧ w'.cell? ⟨d, 4, none⟩ = some (.int .i64 X) ∧ w'.cell? ⟨d, 5, none⟩ = some (.bool Y) ∧ w'.cell? ⟨s, 0, none⟩ = some (.int .i64 b1) ∧ w'.cell? ⟨s, 1, none⟩ = some (.int .i64 b2)) ∧ (w'.heap[d]? = some (.cells #[.int .i64 P, .int .i64 R, .int .i64 U, .int .i64 V, .int .i64 X, .bool Y] 40 (0, 0))) ∧ (w'.heap[s]? = some (.cells #[.int .i64 b1, .int .i64 b2] 93 (0, 0))) ∧ (w'.heap[z]? = some (.cells #[.int .i64 0, .int .i64 0] 93 (0, 0))) ∧ (w'.heap[s_]? = some (.cells #[.int .i64 0, .int .i64 0] 93 (0, 0))) ∧ (w.heap.size ≤ s_) ∧ (w.heap.size ≤ s_) ∧ (d ≠ s_) ∧ (s_ ≠ d) ∧ (s ≠ s_) ∧ (s_ ≠ s) ∧ (z ≠ s_) ∧ (s_ ≠ z) ∧ (Below w.heap.size w w')) ?_ ?_
       rotate_left
       ·intro hJ3_8_12
        refine join_ (σ := Nat × Nat) 4 #[true, true, true, true, true, true, true, true, false, true, false, true, true, false, false] (fun s_ => [(17, .agg #[.int .i64 f3, .int .i64 f6]), (9, .pointer (some ⟨s_.1, 0, none⟩)), (10, .pointer (some ⟨s_.2, 0, none⟩))]) (fun s_ w' => (w'.cell? ⟨d, 0, none⟩ = some (.int .i64 P) ∧ w'.cell? ⟨d, 1, none⟩ = some (.int .i64 R) ∧ w'.cell? ⟨d, 2, none⟩ = some (.int .i64 U) ∧ w'.cell? ⟨d, 3, none⟩ = some (.int .i64 V) ∧ w'.cell? ⟨d, 4, none⟩ = some (.int .i64 X) ∧ w'.cell? ⟨d, 5, none⟩ = some (.bool Y) ∧ w'.cell? ⟨s, 0, none⟩ = some (.int .i64 b1) ∧ w'.cell? ⟨s, 1, none⟩ = some (.int .i64 b2)) ∧ (w'.heap[d]? = some (.cells #[.int .i64 P, .int .i64 R, .int .i64 U, .int .i64 V, .int .i64 X, .bool Y] 40 (0, 0))) ∧ (w'.heap[s]? = some (.cells #[.int .i64 b1, .int .i64 b2] 93 (0, 0))) ∧ (w'.heap[z]? = some (.cells #[.int .i64 0, .int .i64 0] 93 (0, 0))) ∧ (w'.heap[s_.1]? = some (.cells #[.int .i64 0, .int .i64 0] 93 (0, 0))) ∧ (w'.heap[s_.2]? = some (.cells #[.int .i64 0, .int .i64 0] 93 (0, 0))) ∧ (w.heap.size ≤ s_.1) ∧ (w.heap.size ≤ s_.1) ∧ (d ≠ s_.1) ∧ (s_.1 ≠ d) ∧ (s ≠ s_.1) ∧ (s_.1 ≠ s) ∧ (z ≠ s_.1) ∧ (s_.1 ≠ z) ∧ (s_.2 ≠ s_.1) ∧ (s_.1 ≠ s_.2) ∧ (w.heap.size ≤ s_.2) ∧ (w.heap.size ≤ s_.2) ∧ (d ≠ s_.2) ∧ (s_.2 ≠ d) ∧ (s ≠ s_.2) ∧ (s_.2 ≠ s) ∧ (z ≠ s_.2) ∧ (s_.2 ≠ z) ∧ (Below w.heap.size w w')) ?_ ?_
        rotate_left
        ·intro hJ3_11_12
         refine join_ (σ := Unit) 5 #[true, true, true, true, true, true, true, true, true, true, false, false, false, false, false] (fun s_ => [(17, .agg #[.int .i64 f3, .int .i64 f6]), (22, .agg #[.int .i64 f4, .int .i64 f5])]) (fun s_ w' => (w'.cell? ⟨d, 0, none⟩ = some (.int .i64 P) ∧ w'.cell? ⟨d, 1, none⟩ = some (.int .i64 R) ∧ w'.cell? ⟨d, 2, none⟩ = some (.int .i64 U) ∧ w'.cell? ⟨d, 3, none⟩ = some (.int .i64 V) ∧ w'.cell? ⟨d, 4, none⟩ = some (.int .i64 X) ∧ w'.cell? ⟨d, 5, none⟩ = some (.bool Y) ∧ w'.cell? ⟨s, 0, none⟩ = some (.int .i64 b1) ∧ w'.cell? ⟨s, 1, none⟩ = some (.int .i64 b2)) ∧ (w'.heap[d]? = some (.cells #[.int .i64 P, .int .i64 R, .int .i64 U, .int .i64 V, .int .i64 X, .bool Y] 40 (0, 0))) ∧ (w'.heap[s]? = some (.cells #[.int .i64 b1, .int .i64 b2] 93 (0, 0))) ∧ (w'.heap[z]? = some (.cells #[.int .i64 0, .int .i64 0] 93 (0, 0))) ∧ (Below w.heap.size w w')) ?_ ?_
         rotate_left
         ·intro hJ3_8
          refine join_ (σ := Nat) 5 #[true, true, true, true, true, true, true, true, false, true, false, true, false, false, false] (fun s_ => [(17, .agg #[.int .i64 f3, .int .i64 f6]), (9, .pointer (some ⟨s_, 0, none⟩))]) (fun s_ w' => (w'.cell? ⟨d, 0, none⟩ = some (.int .i64 P) ∧ w'.cell? ⟨d, 1, none⟩ = some (.int .i64 R) ∧ w'.cell? ⟨d, 2, none⟩ = some (.int .i64 U) ∧ w'.cell? ⟨d, 3, none⟩ = some (.int .i64 V) ∧ w'.cell? ⟨d, 4, none⟩ = some (.int .i64 X) ∧ w'.cell? ⟨d, 5, none⟩ = some (.bool Y) ∧ w'.cell? ⟨s, 0, none⟩ = some (.int .i64 b1) ∧ w'.cell? ⟨s, 1, none⟩ = some (.int .i64 b2)) ∧ (w'.heap[d]? = some (.cells #[.int .i64 P, .int .i64 R, .int .i64 U, .int .i64 V, .int .i64 X, .bool Y] 40 (0, 0))) ∧ (w'.heap[s]? = some (.cells #[.int .i64 b1, .int .i64 b2] 93 (0, 0))) ∧ (w'.heap[z]? = some (.cells #[.int .i64 0, .int .i64 0] 93 (0, 0))) ∧ (w'.heap[s_]? = some (.cells #[.int .i64 0, .int .i64 0] 93 (0, 0))) ∧ (w.heap.size ≤ s_) ∧ (w.heap.size ≤ s_) ∧ (d ≠ s_) ∧ (s_ ≠ d) ∧ (s ≠ s_) ∧ (s_ ≠ s) ∧ (z ≠ s_) ∧ (s_ ≠ z) ∧ (Below w.heap.size w w')) ?_ ?_
          rotate_left
          ·intro hJ3_11
           refine join_ (σ := Nat) 5 #[true, true, true, true, true, true, true, true, false, true, false, false, true, false, false] (fun s_ => [(17, .agg #[.int .i64 f3, .int .i64 f6]), (10, .pointer (some ⟨s_, 0, none⟩))]) (fun s_ w' => (w'.cell? ⟨d, 0, none⟩ = some (.int .i64 P) ∧ w'.cell? ⟨d, 1, none⟩ = some (.int .i64 R) ∧ w'.cell? ⟨d, 2, none⟩ = some (.int .i64 U) ∧ w'.cell? ⟨d, 3, none⟩ = some (.int .i64 V) ∧ w'.cell? ⟨d, 4, none⟩ = some (.int .i64 X) ∧ w'.cell? ⟨d, 5, none⟩ = some (.bool Y) ∧ w'.cell? ⟨s, 0, none⟩ = some (.int .i64 b1) ∧ w'.cell? ⟨s, 1, none⟩ = some (.int .i64 b2)) ∧ (w'.heap[d]? = some (.cells #[.int .i64 P, .int .i64 R, .int .i64 U, .int .i64 V, .int .i64 X, .bool Y] 40 (0, 0))) ∧ (w'.heap[s]? = some (.cells #[.int .i64 b1, .int .i64 b2] 93 (0, 0))) ∧ (w'.heap[z]? = some (.cells #[.int .i64 0, .int .i64 0] 93 (0, 0))) ∧ (w'.heap[s_]? = some (.cells #[.int .i64 0, .int .i64 0] 93 (0, 0))) ∧ (w.heap.size ≤ s_) ∧ (w.heap.size ≤ s_) ∧ (d ≠ s_) ∧ (s_ ≠ d) ∧ (s ≠ s_) ∧ (s_ ≠ s) ∧ (z ≠ s_) ∧ (s_ ≠ z) ∧ (Below w.heap.size w w')) ?_ ?_
           rotate_left
           ·intro hJ3_12
            refine join_ (σ := Nat × Nat) 5 #[true, true, true, false, true, true, true, true, false, true, false, true, true, false, false] (fun s_ => [(9, .pointer (some ⟨s_.1, 0, none⟩)), (10, .pointer (some ⟨s_.2, 0, none⟩))]) (fun s_ w' => (w'.cell? ⟨d, 0, none⟩ = some (.int .i64 P) ∧ w'.cell? ⟨d, 1, none⟩ = some (.int .i64 R) ∧ w'.cell? ⟨d, 2, none⟩ = some (.int .i64 U) ∧ w'.cell? ⟨d, 3, none⟩ = some (.int .i64 V) ∧ w'.cell? ⟨d, 4, none⟩ = some (.int .i64 X) ∧ w'.cell? ⟨d, 5, none⟩ = some (.bool Y) ∧ w'.cell? ⟨s, 0, none⟩ = some (.int .i64 b1) ∧ w'.cell? ⟨s, 1, none⟩ = some (.int .i64 b2)) ∧ (w'.heap[d]? = some (.cells #[.int .i64 P, .int .i64 R, .int .i64 U, .int .i64 V, .int .i64 X, .bool Y] 40 (0, 0))) ∧ (w'.heap[s]? = some (.cells #[.int .i64 b1, .int .i64 b2] 93 (0, 0))) ∧ (w'.heap[z]? = some (.cells #[.int .i64 0, .int .i64 0] 93 (0, 0))) ∧ (w'.heap[s_.1]? = some (.cells #[.int .i64 0, .int .i64 0] 93 (0, 0))) ∧ (w'.heap[s_.2]? = some (.cells #[.int .i64 0, .int .i64 0] 93 (0, 0))) ∧ (w.heap.size ≤ s_.1) ∧ (w.heap.size ≤ s_.1) ∧ (d ≠ s_.1) ∧ (s_.1 ≠ d) ∧ (s ≠ s_.1) ∧ (s_.1 ≠ s) ∧ (z ≠ s_.1) ∧ (s_.1 ≠ z) ∧ (s_.2 ≠ s_.1) ∧ (s_.1 ≠ s_.2) ∧ (w.heap.size ≤ s_.2) ∧ (w.heap.size ≤ s_.2) ∧ (d ≠ s_.2) ∧ (s_.2 ≠ d) ∧ (s ≠ s_.2) ∧ (s_.2 ≠ s) ∧ (z ≠ s_.2) ∧ (s_.2 ≠ z) ∧ (Below w.heap.size w w')) ?_ ?_
            rotate_left
            ·intro hJ11_12
             refine join_ (σ := Unit) 6 #[true, true, true, true, true, true, true, true, false, true, false, false, false, false, false] (fun s_ => [(17, .agg #[.int .i64 f3, .int .i64 f6])]) (fun s_ w' => (w'.cell? ⟨d, 0, none⟩ = some (.int .i64 P) ∧ w'.cell? ⟨d, 1, none⟩ = some (.int .i64 R) ∧ w'.cell? ⟨d, 2, none⟩ = some (.int .i64 U) ∧ w'.cell? ⟨d, 3, none⟩ = some (.int .i64 V) ∧ w'.cell? ⟨d, 4, none⟩ = some (.int .i64 X) ∧ w'.cell? ⟨d, 5, none⟩ = some (.bool Y) ∧ w'.cell? ⟨s, 0, none⟩ = some (.int .i64 b1) ∧ w'.cell? ⟨s, 1, none⟩ = some (.int .i64 b2)) ∧ (w'.heap[d]? = some (.cells #[.int .i64 P, .int .i64 R, .int .i64 U, .int .i64 V, .int .i64 X, .bool Y] 40 (0, 0))) ∧ (w'.heap[s]? = some (.cells #[.int .i64 b1, .int .i64 b2] 93 (0, 0))) ∧ (w'.heap[z]? = some (.cells #[.int .i64 0, .int .i64 0] 93 (0, 0))) ∧ (Below w.heap.size w w')) ?_ ?_
             rotate_left
             ·intro hJ3
              refine join_ (σ := Nat) 6 #[true, true, true, false, true, true, true, true, false, true, false, true, false, false, false] (fun s_ => [(9, .pointer (some ⟨s_, 0, none⟩))]) (fun s_ w' => (w'.cell? ⟨d, 0, none⟩ = some (.int .i64 P) ∧ w'.cell? ⟨d, 1, none⟩ = some (.int .i64 R) ∧ w'.cell? ⟨d, 2, none⟩ = some (.int .i64 U) ∧ w'.cell? ⟨d, 3, none⟩ = some (.int .i64 V) ∧ w'.cell? ⟨d, 4, none⟩ = some (.int .i64 X) ∧ w'.cell? ⟨d, 5, none⟩ = some (.bool Y) ∧ w'.cell? ⟨s, 0, none⟩ = some (.int .i64 b1) ∧ w'.cell? ⟨s, 1, none⟩ = some (.int .i64 b2)) ∧ (w'.heap[d]? = some (.cells #[.int .i64 P, .int .i64 R, .int .i64 U, .int .i64 V, .int .i64 X, .bool Y] 40 (0, 0))) ∧ (w'.heap[s]? = some (.cells #[.int .i64 b1, .int .i64 b2] 93 (0, 0))) ∧ (w'.heap[z]? = some (.cells #[.int .i64 0, .int .i64 0] 93 (0, 0))) ∧ (w'.heap[s_]? = some (.cells #[.int .i64 0, .int .i64 0] 93 (0, 0))) ∧ (w.heap.size ≤ s_) ∧ (w.heap.size ≤ s_) ∧ (d ≠ s_) ∧ (s_ ≠ d) ∧ (s ≠ s_) ∧ (s_ ≠ s) ∧ (z ≠ s_) ∧ (s_ ≠ z) ∧ (Below w.heap.size w w')) ?_ ?_
              rotate_left
              ·intro hJ11
               refine join_ (σ := Nat) 6 #[true, true, true, false, true, true, true, true, false, true, false, false, true, false, false] (fun s_ => [(10, .pointer (some ⟨s_, 0, none⟩))]) (fun s_ w' => (w'.cell? ⟨d, 0, none⟩ = some (.int .i64 P) ∧ w'.cell? ⟨d, 1, none⟩ = some (.int .i64 R) ∧ w'.cell? ⟨d, 2, none⟩ = some (.int .i64 U) ∧ w'.cell? ⟨d, 3, none⟩ = some (.int .i64 V) ∧ w'.cell? ⟨d, 4, none⟩ = some (.int .i64 X) ∧ w'.cell? ⟨d, 5, none⟩ = some (.bool Y) ∧ w'.cell? ⟨s, 0, none⟩ = some (.int .i64 b1) ∧ w'.cell? ⟨s, 1, none⟩ = some (.int .i64 b2)) ∧ (w'.heap[d]? = some (.cells #[.int .i64 P, .int .i64 R, .int .i64 U, .int .i64 V, .int .i64 X, .bool Y] 40 (0, 0))) ∧ (w'.heap[s]? = some (.cells #[.int .i64 b1, .int .i64 b2] 93 (0, 0))) ∧ (w'.heap[z]? = some (.cells #[.int .i64 0, .int .i64 0] 93 (0, 0))) ∧ (w'.heap[s_]? = some (.cells #[.int .i64 0, .int .i64 0] 93 (0, 0))) ∧ (w.heap.size ≤ s_) ∧ (w.heap.size ≤ s_) ∧ (d ≠ s_) ∧ (s_ ≠ d) ∧ (s ≠ s_) ∧ (s_ ≠ s) ∧ (z ≠ s_) ∧ (s_ ≠ z) ∧ (Below w.heap.size w w')) ?_ ?_
               rotate_left
               ·intro hJ12
                refine three_ (i := 3) (j := 11) (k := 12) (Ni := some 17) (Nj := some 9) (Nk := some 10) #[true, true, true, true, true, true, true, true, false, true, false, false, false, false, false] #[true, true, true, false, true, true, true, true, false, true, false, true, false, false, false] #[true, true, true, false, true, true, true, true, false, true, false, false, true, false, false] rfl rfl rfl rfl rfl rfl (three_of HT_.out (by kernel_rfl)) (by decide) (by decide) (by decide) (fun K hK => ?_) (fun K hK => ?_) (fun K hK => ?_)
                ·skip
                 refine goes_ Try.func121 (by kernel_rfl) rfl #[.agg #[.int .i64 P, .int .i64 R, .int .i64 U, .int .i64 V, .int .i64 X, .bool Y], .agg #[.int .i64 b1, .int .i64 b2], .int .i64 a2] (by rfl) rfl rfl (by (try simp only [List.map_toArray, List.map_cons, List.map_nil]); first | done | rfl) ?_
                 with_reducible refine (spec_sdNext.calls k P R U V X Y b1 b2 a2 f3 f6 _ A4.out).mono ?_
                 rintro e w11 ⟨rfl, hb⟩
                 refine ⟨_, rfl, ?_⟩
                 have n0_ := aM (bB (g := d) (o := .cells #[.int .i64 P, .int .i64 R, .int .i64 U, .int .i64 V, .int .i64 X, .bool Y] 40 (0, 0)) (by (with_reducible repeat (first | apply bN | apply bD | apply bA)); exact c.out) hb)
                 have n1_ := aM (bB (g := s) (o := .cells #[.int .i64 b1, .int .i64 b2] 93 (0, 0)) (by (with_reducible repeat (first | apply bN | apply bD | apply bA)); exact m.out) hb)
                 have n2_ := aM (bB (g := z) (o := .cells #[.int .i64 0, .int .i64 0] 93 (0, 0)) (by (with_reducible repeat (first | apply bN | apply bD | apply bA)); exact y.out) hb)
                 have n3_ := aM (below_step (by repeat (first | (with_reducible first | exact HB.out | apply zA | apply zN | apply zD | refine zS ?_ b3.out | refine zS ?_ b5.out | refine zS ?_ b9.out) | exact HB.out)) hb)
                 clear c
                 clear m
                 clear y
                 clear HB
                 have c := n0_
                 have m := n1_
                 have y := n2_
                 have HB := n3_
                 clear n0_ n1_ n2_ n3_
                 (try clear hb)
                 (try clear hb2)
                 (try clear hk)
                 (try clear hi)
                 refine hK.out _ _ ⟨(blk_cell c.out 0).trans rfl, (blk_cell c.out 1).trans rfl, (blk_cell c.out 2).trans rfl, (blk_cell c.out 3).trans rfl, (blk_cell c.out 4).trans rfl, (blk_cell c.out 5).trans rfl, (blk_cell m.out 0).trans rfl, (blk_cell m.out 1).trans rfl⟩ (fun hHeld => ?_)
                 clear hK K
                 refine norm_ (a' := ?_) ?_ ?_
                 rotate_left
                 ·show Act.put _ (some 17) _ = _
                  simp only [Act.put, List.setIfInBounds_toArray, List.set_cons_zero, List.set_cons_succ, i64_w, i32_w]
                  rfl
                 exact norm_ (by first | (simp only [putAll, Act.put, List.setIfInBounds_toArray, List.set_cons_zero, List.set_cons_succ]; done) | (simp only [putAll, Act.put, List.setIfInBounds_toArray, List.set_cons_zero, List.set_cons_succ]; rfl)) (hJ3 () _ ⟨hHeld, (by (with_reducible repeat (first | apply bN | apply bD | apply bA)); exact c.out), (by (with_reducible repeat (first | apply bN | apply bD | apply bA)); exact m.out), (by (with_reducible repeat (first | apply bN | apply bD | apply bA)); exact y.out), (by repeat (first | (with_reducible first | exact HB.out | apply zA | apply zN | apply zD | refine zS ?_ b3.out | refine zS ?_ b5.out | refine zS ?_ b9.out) | exact HB.out))⟩)
                ·skip
                 refine box_step ?hg (N := 9) ?hd (cs := #[.int .i64 0, .int .i64 0]) (t := 93) ?hr ?_; (case hd => rfl); (case hg => rfl); (case hr => first | (go_simp; done) | (go_simp; rfl))
                 intro q hg w11 hbox hb
                 have n0_ := aM (bB (g := d) (o := .cells #[.int .i64 P, .int .i64 R, .int .i64 U, .int .i64 V, .int .i64 X, .bool Y] 40 (0, 0)) (by (with_reducible repeat (first | apply bN | apply bD | apply bA)); exact c.out) hb)
                 have n1_ := aM (bB (g := s) (o := .cells #[.int .i64 b1, .int .i64 b2] 93 (0, 0)) (by (with_reducible repeat (first | apply bN | apply bD | apply bA)); exact m.out) hb)
                 have n2_ := aM (bB (g := z) (o := .cells #[.int .i64 0, .int .i64 0] 93 (0, 0)) (by (with_reducible repeat (first | apply bN | apply bD | apply bA)); exact y.out) hb)
                 have n3_ := aM (below_step (by repeat (first | (with_reducible first | exact HB.out | apply zA | apply zN | apply zD | refine zS ?_ b3.out | refine zS ?_ b5.out | refine zS ?_ b9.out) | exact HB.out)) hb)
                 have n4_ := aM (hbox)
                 have n5_ := aM ((by rw [hg]; exact (below_size (by repeat (first | (with_reducible first | exact HB.out | apply zA | apply zN | apply zD | refine zS ?_ b3.out | refine zS ?_ b5.out | refine zS ?_ b9.out) | exact HB.out))) : w.heap.size ≤ q))
                 have n6_ := aM ((by rw [hg]; exact (below_size (by repeat (first | (with_reducible first | exact HB.out | apply zA | apply zN | apply zD | refine zS ?_ b3.out | refine zS ?_ b5.out | refine zS ?_ b9.out) | exact HB.out))) : w.heap.size ≤ q))
                 have n7_ := aM ((by rw [hg]; exact Nat.ne_of_lt (blk_lt (g := d) (o := .cells #[.int .i64 P, .int .i64 R, .int .i64 U, .int .i64 V, .int .i64 X, .bool Y] 40 (0, 0)) (by (with_reducible repeat (first | apply bN | apply bD | apply bA)); exact c.out)) : d ≠ q))
                 have n8_ := aM ((by rw [hg]; exact Nat.ne_of_gt (blk_lt (g := d) (o := .cells #[.int .i64 P, .int .i64 R, .int .i64 U, .int .i64 V, .int .i64 X, .bool Y] 40 (0, 0)) (by (with_reducible repeat (first | apply bN | apply bD | apply bA)); exact c.out)) : q ≠ d))
                 have n9_ := aM ((by rw [hg]; exact Nat.ne_of_lt (blk_lt (g := s) (o := .cells #[.int .i64 b1, .int .i64 b2] 93 (0, 0)) (by (with_reducible repeat (first | apply bN | apply bD | apply bA)); exact m.out)) : s ≠ q))
                 have n10_ := aM ((by rw [hg]; exact Nat.ne_of_gt (blk_lt (g := s) (o := .cells #[.int .i64 b1, .int .i64 b2] 93 (0, 0)) (by (with_reducible repeat (first | apply bN | apply bD | apply bA)); exact m.out)) : q ≠ s))
                 have n11_ := aM ((by rw [hg]; exact Nat.ne_of_lt (blk_lt (g := z) (o := .cells #[.int .i64 0, .int .i64 0] 93 (0, 0)) (by (with_reducible repeat (first | apply bN | apply bD | apply bA)); exact y.out)) : z ≠ q))
                 have n12_ := aM ((by rw [hg]; exact Nat.ne_of_gt (blk_lt (g := z) (o := .cells #[.int .i64 0, .int .i64 0] 93 (0, 0)) (by (with_reducible repeat (first | apply bN | apply bD | apply bA)); exact y.out)) : q ≠ z))
                 clear c
                 clear m
                 clear y
                 clear HB
                 have c := n0_
                 have m := n1_
                 have y := n2_
                 have HB := n3_
                 have C := n4_
                 have e6 := n5_
                 have d1 := n6_
                 have E := n7_
                 have c0 := n8_
                 have Z := n9_
                 have d0 := n10_
                 have J := n11_
                 have a9 := n12_
                 clear n0_ n1_ n2_ n3_ n4_ n5_ n6_ n7_ n8_ n9_ n10_ n11_ n12_
                 clear hb hbox hg
                 refine hK.out _ _ ⟨(blk_cell c.out 0).trans rfl, (blk_cell c.out 1).trans rfl, (blk_cell c.out 2).trans rfl, (blk_cell c.out 3).trans rfl, (blk_cell c.out 4).trans rfl, (blk_cell c.out 5).trans rfl, (blk_cell m.out 0).trans rfl, (blk_cell m.out 1).trans rfl⟩ (fun hHeld => ?_)
                 clear hK K
                 refine norm_ (a' := ?_) ?_ ?_
                 rotate_left
                 ·show Act.put _ (some 9) _ = _
                  simp only [Act.put, List.setIfInBounds_toArray, List.set_cons_zero, List.set_cons_succ, i64_w, i32_w]
                  rfl
                 exact norm_ (by first | (simp only [putAll, Act.put, List.setIfInBounds_toArray, List.set_cons_zero, List.set_cons_succ]; done) | (simp only [putAll, Act.put, List.setIfInBounds_toArray, List.set_cons_zero, List.set_cons_succ]; rfl)) (hJ11 (q) _ ⟨hHeld, (by (with_reducible repeat (first | apply bN | apply bD | apply bA)); exact c.out), (by (with_reducible repeat (first | apply bN | apply bD | apply bA)); exact m.out), (by (with_reducible repeat (first | apply bN | apply bD | apply bA)); exact y.out), (by (with_reducible repeat (first | apply bN | apply bD | apply bA)); exact C.out), e6.out, d1.out, E.out, c0.out, Z.out, d0.out, J.out, a9.out, (by repeat (first | (with_reducible first | exact HB.out | apply zA | apply zN | apply zD | refine zS ?_ b3.out | refine zS ?_ b5.out | refine zS ?_ b9.out | refine zS ?_ d1.out) | exact HB.out))⟩)
                ·skip
                 refine box_step ?hg (N := 10) ?hd (cs := #[.int .i64 0, .int .i64 0]) (t := 93) ?hr ?_; (case hd => rfl); (case hg => rfl); (case hr => first | (go_simp; done) | (go_simp; rfl))
                 intro u hg w11 hbox hb
                 have n0_ := aM (bB (g := d) (o := .cells #[.int .i64 P, .int .i64 R, .int .i64 U, .int .i64 V, .int .i64 X, .bool Y] 40 (0, 0)) (by (with_reducible repeat (first | apply bN | apply bD | apply bA)); exact c.out) hb)
                 have n1_ := aM (bB (g := s) (o := .cells #[.int .i64 b1, .int .i64 b2] 93 (0, 0)) (by (with_reducible repeat (first | apply bN | apply bD | apply bA)); exact m.out) hb)
                 have n2_ := aM (bB (g := z) (o := .cells #[.int .i64 0, .int .i64 0] 93 (0, 0)) (by (with_reducible repeat (first | apply bN | apply bD | apply bA)); exact y.out) hb)
                 have n3_ := aM (below_step (by repeat (first | (with_reducible first | exact HB.out | apply zA | apply zN | apply zD | refine zS ?_ b3.out | refine zS ?_ b5.out | refine zS ?_ b9.out) | exact HB.out)) hb)
                 have n4_ := aM (hbox)
                 have n5_ := aM ((by rw [hg]; exact (below_size (by repeat (first | (with_reducible first | exact HB.out | apply zA | apply zN | apply zD | refine zS ?_ b3.out | refine zS ?_ b5.out | refine zS ?_ b9.out) | exact HB.out))) : w.heap.size ≤ u))
                 have n6_ := aM ((by rw [hg]; exact (below_size (by repeat (first | (with_reducible first | exact HB.out | apply zA | apply zN | apply zD | refine zS ?_ b3.out | refine zS ?_ b5.out | refine zS ?_ b9.out) | exact HB.out))) : w.heap.size ≤ u))
                 have n7_ := aM ((by rw [hg]; exact Nat.ne_of_lt (blk_lt (g := d) (o := .cells #[.int .i64 P, .int .i64 R, .int .i64 U, .int .i64 V, .int .i64 X, .bool Y] 40 (0, 0)) (by (with_reducible repeat (first | apply bN | apply bD | apply bA)); exact c.out)) : d ≠ u))
                 have n8_ := aM ((by rw [hg]; exact Nat.ne_of_gt (blk_lt (g := d) (o := .cells #[.int .i64 P, .int .i64 R, .int .i64 U, .int .i64 V, .int .i64 X, .bool Y] 40 (0, 0)) (by (with_reducible repeat (first | apply bN | apply bD | apply bA)); exact c.out)) : u ≠ d))
                 have n9_ := aM ((by rw [hg]; exact Nat.ne_of_lt (blk_lt (g := s) (o := .cells #[.int .i64 b1, .int .i64 b2] 93 (0, 0)) (by (with_reducible repeat (first | apply bN | apply bD | apply bA)); exact m.out)) : s ≠ u))
                 have n10_ := aM ((by rw [hg]; exact Nat.ne_of_gt (blk_lt (g := s) (o := .cells #[.int .i64 b1, .int .i64 b2] 93 (0, 0)) (by (with_reducible repeat (first | apply bN | apply bD | apply bA)); exact m.out)) : u ≠ s))
                 have n11_ := aM ((by rw [hg]; exact Nat.ne_of_lt (blk_lt (g := z) (o := .cells #[.int .i64 0, .int .i64 0] 93 (0, 0)) (by (with_reducible repeat (first | apply bN | apply bD | apply bA)); exact y.out)) : z ≠ u))
                 have n12_ := aM ((by rw [hg]; exact Nat.ne_of_gt (blk_lt (g := z) (o := .cells #[.int .i64 0, .int .i64 0] 93 (0, 0)) (by (with_reducible repeat (first | apply bN | apply bD | apply bA)); exact y.out)) : u ≠ z))
                 clear c
                 clear m
                 clear y
                 clear HB
                 have c := n0_
                 have m := n1_
                 have y := n2_
                 have HB := n3_
                 have A := n4_
                 have e7 := n5_
                 have d2 := n6_
                 have D := n7_
                 have b6 := n8_
                 have L := n9_
                 have b7 := n10_
                 have G := n11_
                 have b0 := n12_
                 clear n0_ n1_ n2_ n3_ n4_ n5_ n6_ n7_ n8_ n9_ n10_ n11_ n12_
                 clear hb hbox hg
                 refine hK.out _ _ ⟨(blk_cell c.out 0).trans rfl, (blk_cell c.out 1).trans rfl, (blk_cell c.out 2).trans rfl, (blk_cell c.out 3).trans rfl, (blk_cell c.out 4).trans rfl, (blk_cell c.out 5).trans rfl, (blk_cell m.out 0).trans rfl, (blk_cell m.out 1).trans rfl⟩ (fun hHeld => ?_)
                 clear hK K
                 refine norm_ (a' := ?_) ?_ ?_
                 rotate_left
                 ·show Act.put _ (some 10) _ = _
                  simp only [Act.put, List.setIfInBounds_toArray, List.set_cons_zero, List.set_cons_succ, i64_w, i32_w]
                  rfl
                 exact norm_ (by first | (simp only [putAll, Act.put, List.setIfInBounds_toArray, List.set_cons_zero, List.set_cons_succ]; done) | (simp only [putAll, Act.put, List.setIfInBounds_toArray, List.set_cons_zero, List.set_cons_succ]; rfl)) (hJ12 (u) _ ⟨hHeld, (by (with_reducible repeat (first | apply bN | apply bD | apply bA)); exact c.out), (by (with_reducible repeat (first | apply bN | apply bD | apply bA)); exact m.out), (by (with_reducible repeat (first | apply bN | apply bD | apply bA)); exact y.out), (by (with_reducible repeat (first | apply bN | apply bD | apply bA)); exact A.out), e7.out, d2.out, D.out, b6.out, L.out, b7.out, G.out, b0.out, (by repeat (first | (with_reducible first | exact HB.out | apply zA | apply zN | apply zD | refine zS ?_ b3.out | refine zS ?_ b5.out | refine zS ?_ b9.out | refine zS ?_ d2.out) | exact HB.out))⟩)
               ·skip
                rintro u w12 ⟨hS_, h0_, h1_, h2_, h3_, h4_, h5_, h6_, h7_, h8_, h9_, h10_, h11_, h12_⟩
                have n0_ : Aside0 (w12.heap[d]? = some (.cells #[.int .i64 P, .int .i64 R, .int .i64 U, .int .i64 V, .int .i64 X, .bool Y] 40 (0, 0))) := ⟨h0_⟩
                have n1_ : Aside0 (w12.heap[s]? = some (.cells #[.int .i64 b1, .int .i64 b2] 93 (0, 0))) := ⟨h1_⟩
                have n2_ : Aside0 (w12.heap[z]? = some (.cells #[.int .i64 0, .int .i64 0] 93 (0, 0))) := ⟨h2_⟩
                have n3_ : Aside0 (w12.heap[u]? = some (.cells #[.int .i64 0, .int .i64 0] 93 (0, 0))) := ⟨h3_⟩
                have n4_ : Aside0 (w.heap.size ≤ u) := ⟨h4_⟩
                have n5_ : Aside0 (w.heap.size ≤ u) := ⟨h5_⟩
                have n6_ : Aside0 (d ≠ u) := ⟨h6_⟩
                have n7_ : Aside0 (u ≠ d) := ⟨h7_⟩
                have n8_ : Aside0 (s ≠ u) := ⟨h8_⟩
                have n9_ : Aside0 (u ≠ s) := ⟨h9_⟩
                have n10_ : Aside0 (z ≠ u) := ⟨h10_⟩
                have n11_ : Aside0 (u ≠ z) := ⟨h11_⟩
                have n12_ : Aside0 (Below w.heap.size w w12) := ⟨h12_⟩
                clear c
                clear m
                clear y
                clear HB
                clear h0_ h1_ h2_ h3_ h4_ h5_ h6_ h7_ h8_ h9_ h10_ h11_ h12_
                have c := n0_
                have m := n1_
                have y := n2_
                have A := n3_
                have e7 := n4_
                have d2 := n5_
                have D := n6_
                have b6 := n7_
                have L := n8_
                have b7 := n9_
                have G := n10_
                have b0 := n11_
                have HB := n12_
                clear n0_ n1_ n2_ n3_ n4_ n5_ n6_ n7_ n8_ n9_ n10_ n11_ n12_
                have hHeld : w12.cell? ⟨d, 0, none⟩ = some (.int .i64 P) ∧ w12.cell? ⟨d, 1, none⟩ = some (.int .i64 R) ∧ w12.cell? ⟨d, 2, none⟩ = some (.int .i64 U) ∧ w12.cell? ⟨d, 3, none⟩ = some (.int .i64 V) ∧ w12.cell? ⟨d, 4, none⟩ = some (.int .i64 X) ∧ w12.cell? ⟨d, 5, none⟩ = some (.bool Y) ∧ w12.cell? ⟨s, 0, none⟩ = some (.int .i64 b1) ∧ w12.cell? ⟨s, 1, none⟩ = some (.int .i64 b2) := hS_
                refine norm_ (a' := ?_) ?_ ?_
                rotate_left
                ·simp only [putAll, Act.put, List.setIfInBounds_toArray, List.set_cons_zero, List.set_cons_succ]
                 rfl
                refine two_ (i := 3) (j := 11) (Ni := some 17) (Nj := some 9) #[true, true, true, true, true, true, true, true, false, true, false, false, true, false, false] #[true, true, true, false, true, true, true, true, false, true, false, true, true, false, false] rfl rfl rfl rfl (two_of HT_.out (by kernel_rfl)) (by decide) (by decide) (fun K hK => ?_) (fun K hK => ?_)
                ·skip
                 refine goes_ Try.func121 (by kernel_rfl) rfl #[.agg #[.int .i64 P, .int .i64 R, .int .i64 U, .int .i64 V, .int .i64 X, .bool Y], .agg #[.int .i64 b1, .int .i64 b2], .int .i64 a2] (by rfl) rfl rfl (by (try simp only [List.map_toArray, List.map_cons, List.map_nil]); first | done | rfl) ?_
                 with_reducible refine (spec_sdNext.calls k P R U V X Y b1 b2 a2 f3 f6 _ A4.out).mono ?_
                 rintro e w13 ⟨rfl, hb⟩
                 refine ⟨_, rfl, ?_⟩
                 have n0_ := aM (bB (g := d) (o := .cells #[.int .i64 P, .int .i64 R, .int .i64 U, .int .i64 V, .int .i64 X, .bool Y] 40 (0, 0)) (by (with_reducible repeat (first | apply bN | apply bD | apply bA)); exact c.out) hb)
                 have n1_ := aM (bB (g := s) (o := .cells #[.int .i64 b1, .int .i64 b2] 93 (0, 0)) (by (with_reducible repeat (first | apply bN | apply bD | apply bA)); exact m.out) hb)
                 have n2_ := aM (bB (g := z) (o := .cells #[.int .i64 0, .int .i64 0] 93 (0, 0)) (by (with_reducible repeat (first | apply bN | apply bD | apply bA)); exact y.out) hb)
                 have n3_ := aM (bB (g := u) (o := .cells #[.int .i64 0, .int .i64 0] 93 (0, 0)) (by (with_reducible repeat (first | apply bN | apply bD | apply bA)); exact A.out) hb)
                 have n4_ := aM (below_step (by repeat (first | (with_reducible first | exact HB.out | apply zA | apply zN | apply zD | refine zS ?_ b3.out | refine zS ?_ b5.out | refine zS ?_ b9.out | refine zS ?_ d2.out) | exact HB.out)) hb)
                 clear c
                 clear m
                 clear y
                 clear A
                 clear HB
                 have c := n0_
                 have m := n1_
                 have y := n2_
                 have A := n3_
                 have HB := n4_
                 clear n0_ n1_ n2_ n3_ n4_
                 (try clear hb)
                 (try clear hb2)
                 (try clear hk)
                 (try clear hi)
                 refine hK.out _ _ ⟨(blk_cell c.out 0).trans rfl, (blk_cell c.out 1).trans rfl, (blk_cell c.out 2).trans rfl, (blk_cell c.out 3).trans rfl, (blk_cell c.out 4).trans rfl, (blk_cell c.out 5).trans rfl, (blk_cell m.out 0).trans rfl, (blk_cell m.out 1).trans rfl⟩ (fun hHeld => ?_)
                 clear hK K
                 refine norm_ (a' := ?_) ?_ ?_
                 rotate_left
                 ·show Act.put _ (some 17) _ = _
                  simp only [Act.put, List.setIfInBounds_toArray, List.set_cons_zero, List.set_cons_succ, i64_w, i32_w]
                  rfl
                 exact norm_ (by first | (simp only [putAll, Act.put, List.setIfInBounds_toArray, List.set_cons_zero, List.set_cons_succ]; done) | (simp only [putAll, Act.put, List.setIfInBounds_toArray, List.set_cons_zero, List.set_cons_succ]; rfl)) (hJ3_12 (u) _ ⟨hHeld, (by (with_reducible repeat (first | apply bN | apply bD | apply bA)); exact c.out), (by (with_reducible repeat (first | apply bN | apply bD | apply bA)); exact m.out), (by (with_reducible repeat (first | apply bN | apply bD | apply bA)); exact y.out), (by (with_reducible repeat (first | apply bN | apply bD | apply bA)); exact A.out), e7.out, d2.out, D.out, b6.out, L.out, b7.out, G.out, b0.out, (by repeat (first | (with_reducible first | exact HB.out | apply zA | apply zN | apply zD | refine zS ?_ b3.out | refine zS ?_ b5.out | refine zS ?_ b9.out | refine zS ?_ d2.out) | exact HB.out))⟩)
                ·skip
                 refine box_step ?hg (N := 9) ?hd (cs := #[.int .i64 0, .int .i64 0]) (t := 93) ?hr ?_; (case hd => rfl); (case hg => rfl); (case hr => first | (go_simp; done) | (go_simp; rfl))
                 intro q hg w13 hbox hb
                 have n0_ := aM (bB (g := d) (o := .cells #[.int .i64 P, .int .i64 R, .int .i64 U, .int .i64 V, .int .i64 X, .bool Y] 40 (0, 0)) (by (with_reducible repeat (first | apply bN | apply bD | apply bA)); exact c.out) hb)
                 have n1_ := aM (bB (g := s) (o := .cells #[.int .i64 b1, .int .i64 b2] 93 (0, 0)) (by (with_reducible repeat (first | apply bN | apply bD | apply bA)); exact m.out) hb)
                 have n2_ := aM (bB (g := z) (o := .cells #[.int .i64 0, .int .i64 0] 93 (0, 0)) (by (with_reducible repeat (first | apply bN | apply bD | apply bA)); exact y.out) hb)
                 have n3_ := aM (bB (g := u) (o := .cells #[.int .i64 0, .int .i64 0] 93 (0, 0)) (by (with_reducible repeat (first | apply bN | apply bD | apply bA)); exact A.out) hb)
                 have n4_ := aM (below_step (by repeat (first | (with_reducible first | exact HB.out | apply zA | apply zN | apply zD | refine zS ?_ b3.out | refine zS ?_ b5.out | refine zS ?_ b9.out | refine zS ?_ d2.out) | exact HB.out)) hb)
                 have n5_ := aM (hbox)
                 have n6_ := aM ((by rw [hg]; exact (below_size (by repeat (first | (with_reducible first | exact HB.out | apply zA | apply zN | apply zD | refine zS ?_ b3.out | refine zS ?_ b5.out | refine zS ?_ b9.out | refine zS ?_ d2.out) | exact HB.out))) : w.heap.size ≤ q))
                 have n7_ := aM ((by rw [hg]; exact (below_size (by repeat (first | (with_reducible first | exact HB.out | apply zA | apply zN | apply zD | refine zS ?_ b3.out | refine zS ?_ b5.out | refine zS ?_ b9.out | refine zS ?_ d2.out) | exact HB.out))) : w.heap.size ≤ q))
                 have n8_ := aM ((by rw [hg]; exact Nat.ne_of_lt (blk_lt (g := d) (o := .cells #[.int .i64 P, .int .i64 R, .int .i64 U, .int .i64 V, .int .i64 X, .bool Y] 40 (0, 0)) (by (with_reducible repeat (first | apply bN | apply bD | apply bA)); exact c.out)) : d ≠ q))
                 have n9_ := aM ((by rw [hg]; exact Nat.ne_of_gt (blk_lt (g := d) (o := .cells #[.int .i64 P, .int .i64 R, .int .i64 U, .int .i64 V, .int .i64 X, .bool Y] 40 (0, 0)) (by (with_reducible repeat (first | apply bN | apply bD | apply bA)); exact c.out)) : q ≠ d))
                 have n10_ := aM ((by rw [hg]; exact Nat.ne_of_lt (blk_lt (g := s) (o := .cells #[.int .i64 b1, .int .i64 b2] 93 (0, 0)) (by (with_reducible repeat (first | apply bN | apply bD | apply bA)); exact m.out)) : s ≠ q))
                 have n11_ := aM ((by rw [hg]; exact Nat.ne_of_gt (blk_lt (g := s) (o := .cells #[.int .i64 b1, .int .i64 b2] 93 (0, 0)) (by (with_reducible repeat (first | apply bN | apply bD | apply bA)); exact m.out)) : q ≠ s))
                 have n12_ := aM ((by rw [hg]; exact Nat.ne_of_lt (blk_lt (g := z) (o := .cells #[.int .i64 0, .int .i64 0] 93 (0, 0)) (by (with_reducible repeat (first | apply bN | apply bD | apply bA)); exact y.out)) : z ≠ q))
                 have n13_ := aM ((by rw [hg]; exact Nat.ne_of_gt (blk_lt (g := z) (o := .cells #[.int .i64 0, .int .i64 0] 93 (0, 0)) (by (with_reducible repeat (first | apply bN | apply bD | apply bA)); exact y.out)) : q ≠ z))
                 have n14_ := aM ((by rw [hg]; exact Nat.ne_of_lt (blk_lt (g := u) (o := .cells #[.int .i64 0, .int .i64 0] 93 (0, 0)) (by (with_reducible repeat (first | apply bN | apply bD | apply bA)); exact A.out)) : u ≠ q))
                 have n15_ := aM ((by rw [hg]; exact Nat.ne_of_gt (blk_lt (g := u) (o := .cells #[.int .i64 0, .int .i64 0] 93 (0, 0)) (by (with_reducible repeat (first | apply bN | apply bD | apply bA)); exact A.out)) : q ≠ u))
                 clear c
                 clear m
                 clear y
                 clear A
                 clear HB
                 have c := n0_
                 have m := n1_
                 have y := n2_
                 have A := n3_
                 have HB := n4_
                 have C := n5_
                 have e6 := n6_
                 have d1 := n7_
                 have E := n8_
                 have c0 := n9_
                 have Z := n10_
                 have d0 := n11_
                 have J := n12_
                 have a9 := n13_
                 have b8 := n14_
                 have b4 := n15_
                 clear n0_ n1_ n2_ n3_ n4_ n5_ n6_ n7_ n8_ n9_ n10_ n11_ n12_ n13_ n14_ n15_
                 clear hb hbox hg
                 refine hK.out _ _ ⟨(blk_cell c.out 0).trans rfl, (blk_cell c.out 1).trans rfl, (blk_cell c.out 2).trans rfl, (blk_cell c.out 3).trans rfl, (blk_cell c.out 4).trans rfl, (blk_cell c.out 5).trans rfl, (blk_cell m.out 0).trans rfl, (blk_cell m.out 1).trans rfl⟩ (fun hHeld => ?_)
                 clear hK K
                 refine norm_ (a' := ?_) ?_ ?_
                 rotate_left
                 ·show Act.put _ (some 9) _ = _
                  simp only [Act.put, List.setIfInBounds_toArray, List.set_cons_zero, List.set_cons_succ, i64_w, i32_w]
                  rfl
                 exact norm_ (by first | (simp only [putAll, Act.put, List.setIfInBounds_toArray, List.set_cons_zero, List.set_cons_succ]; done) | (simp only [putAll, Act.put, List.setIfInBounds_toArray, List.set_cons_zero, List.set_cons_succ]; rfl)) (hJ11_12 (q, u) _ ⟨hHeld, (by (with_reducible repeat (first | apply bN | apply bD | apply bA)); exact c.out), (by (with_reducible repeat (first | apply bN | apply bD | apply bA)); exact m.out), (by (with_reducible repeat (first | apply bN | apply bD | apply bA)); exact y.out), (by (with_reducible repeat (first | apply bN | apply bD | apply bA)); exact C.out), (by (with_reducible repeat (first | apply bN | apply bD | apply bA)); exact A.out), e6.out, d1.out, E.out, c0.out, Z.out, d0.out, J.out, a9.out, b8.out, b4.out, e7.out, d2.out, D.out, b6.out, L.out, b7.out, G.out, b0.out, (by repeat (first | (with_reducible first | exact HB.out | apply zA | apply zN | apply zD | refine zS ?_ b3.out | refine zS ?_ b5.out | refine zS ?_ b9.out | refine zS ?_ d2.out | refine zS ?_ d1.out) | exact HB.out))⟩)
              ·skip
               rintro q w12 ⟨hS_, h0_, h1_, h2_, h3_, h4_, h5_, h6_, h7_, h8_, h9_, h10_, h11_, h12_⟩
               have n0_ : Aside0 (w12.heap[d]? = some (.cells #[.int .i64 P, .int .i64 R, .int .i64 U, .int .i64 V, .int .i64 X, .bool Y] 40 (0, 0))) := ⟨h0_⟩
               have n1_ : Aside0 (w12.heap[s]? = some (.cells #[.int .i64 b1, .int .i64 b2] 93 (0, 0))) := ⟨h1_⟩
               have n2_ : Aside0 (w12.heap[z]? = some (.cells #[.int .i64 0, .int .i64 0] 93 (0, 0))) := ⟨h2_⟩
               have n3_ : Aside0 (w12.heap[q]? = some (.cells #[.int .i64 0, .int .i64 0] 93 (0, 0))) := ⟨h3_⟩
               have n4_ : Aside0 (w.heap.size ≤ q) := ⟨h4_⟩
               have n5_ : Aside0 (w.heap.size ≤ q) := ⟨h5_⟩
               have n6_ : Aside0 (d ≠ q) := ⟨h6_⟩
               have n7_ : Aside0 (q ≠ d) := ⟨h7_⟩
               have n8_ : Aside0 (s ≠ q) := ⟨h8_⟩
               have n9_ : Aside0 (q ≠ s) := ⟨h9_⟩
               have n10_ : Aside0 (z ≠ q) := ⟨h10_⟩
               have n11_ : Aside0 (q ≠ z) := ⟨h11_⟩
               have n12_ : Aside0 (Below w.heap.size w w12) := ⟨h12_⟩
               clear c
               clear m
               clear y
               clear HB
               clear h0_ h1_ h2_ h3_ h4_ h5_ h6_ h7_ h8_ h9_ h10_ h11_ h12_
               have c := n0_
               have m := n1_
               have y := n2_
               have C := n3_
               have e6 := n4_
               have d1 := n5_
               have E := n6_
               have c0 := n7_
               have Z := n8_
               have d0 := n9_
               have J := n10_
               have a9 := n11_
               have HB := n12_
               clear n0_ n1_ n2_ n3_ n4_ n5_ n6_ n7_ n8_ n9_ n10_ n11_ n12_
               have hHeld : w12.cell? ⟨d, 0, none⟩ = some (.int .i64 P) ∧ w12.cell? ⟨d, 1, none⟩ = some (.int .i64 R) ∧ w12.cell? ⟨d, 2, none⟩ = some (.int .i64 U) ∧ w12.cell? ⟨d, 3, none⟩ = some (.int .i64 V) ∧ w12.cell? ⟨d, 4, none⟩ = some (.int .i64 X) ∧ w12.cell? ⟨d, 5, none⟩ = some (.bool Y) ∧ w12.cell? ⟨s, 0, none⟩ = some (.int .i64 b1) ∧ w12.cell? ⟨s, 1, none⟩ = some (.int .i64 b2) := hS_
               refine norm_ (a' := ?_) ?_ ?_
               rotate_left
               ·simp only [putAll, Act.put, List.setIfInBounds_toArray, List.set_cons_zero, List.set_cons_succ]
                rfl
               refine two_ (i := 3) (j := 12) (Ni := some 17) (Nj := some 10) #[true, true, true, true, true, true, true, true, false, true, false, true, false, false, false] #[true, true, true, false, true, true, true, true, false, true, false, true, true, false, false] rfl rfl rfl rfl (two_of HT_.out (by kernel_rfl)) (by decide) (by decide) (fun K hK => ?_) (fun K hK => ?_)
               ·skip
                refine goes_ Try.func121 (by kernel_rfl) rfl #[.agg #[.int .i64 P, .int .i64 R, .int .i64 U, .int .i64 V, .int .i64 X, .bool Y], .agg #[.int .i64 b1, .int .i64 b2], .int .i64 a2] (by rfl) rfl rfl (by (try simp only [List.map_toArray, List.map_cons, List.map_nil]); first | done | rfl) ?_
                with_reducible refine (spec_sdNext.calls k P R U V X Y b1 b2 a2 f3 f6 _ A4.out).mono ?_
                rintro e w13 ⟨rfl, hb⟩
                refine ⟨_, rfl, ?_⟩
                have n0_ := aM (bB (g := d) (o := .cells #[.int .i64 P, .int .i64 R, .int .i64 U, .int .i64 V, .int .i64 X, .bool Y] 40 (0, 0)) (by (with_reducible repeat (first | apply bN | apply bD | apply bA)); exact c.out) hb)
                have n1_ := aM (bB (g := s) (o := .cells #[.int .i64 b1, .int .i64 b2] 93 (0, 0)) (by (with_reducible repeat (first | apply bN | apply bD | apply bA)); exact m.out) hb)
                have n2_ := aM (bB (g := z) (o := .cells #[.int .i64 0, .int .i64 0] 93 (0, 0)) (by (with_reducible repeat (first | apply bN | apply bD | apply bA)); exact y.out) hb)
                have n3_ := aM (bB (g := q) (o := .cells #[.int .i64 0, .int .i64 0] 93 (0, 0)) (by (with_reducible repeat (first | apply bN | apply bD | apply bA)); exact C.out) hb)
                have n4_ := aM (below_step (by repeat (first | (with_reducible first | exact HB.out | apply zA | apply zN | apply zD | refine zS ?_ b3.out | refine zS ?_ b5.out | refine zS ?_ b9.out | refine zS ?_ d1.out) | exact HB.out)) hb)
                clear c
                clear m
                clear y
                clear C
                clear HB
                have c := n0_
                have m := n1_
                have y := n2_
                have C := n3_
                have HB := n4_
                clear n0_ n1_ n2_ n3_ n4_
                (try clear hb)
                (try clear hb2)
                (try clear hk)
                (try clear hi)
                refine hK.out _ _ ⟨(blk_cell c.out 0).trans rfl, (blk_cell c.out 1).trans rfl, (blk_cell c.out 2).trans rfl, (blk_cell c.out 3).trans rfl, (blk_cell c.out 4).trans rfl, (blk_cell c.out 5).trans rfl, (blk_cell m.out 0).trans rfl, (blk_cell m.out 1).trans rfl⟩ (fun hHeld => ?_)
                clear hK K
                refine norm_ (a' := ?_) ?_ ?_
                rotate_left
                ·show Act.put _ (some 17) _ = _
                 simp only [Act.put, List.setIfInBounds_toArray, List.set_cons_zero, List.set_cons_succ, i64_w, i32_w]
                 rfl
                exact norm_ (by first | (simp only [putAll, Act.put, List.setIfInBounds_toArray, List.set_cons_zero, List.set_cons_succ]; done) | (simp only [putAll, Act.put, List.setIfInBounds_toArray, List.set_cons_zero, List.set_cons_succ]; rfl)) (hJ3_11 (q) _ ⟨hHeld, (by (with_reducible repeat (first | apply bN | apply bD | apply bA)); exact c.out), (by (with_reducible repeat (first | apply bN | apply bD | apply bA)); exact m.out), (by (with_reducible repeat (first | apply bN | apply bD | apply bA)); exact y.out), (by (with_reducible repeat (first | apply bN | apply bD | apply bA)); exact C.out), e6.out, d1.out, E.out, c0.out, Z.out, d0.out, J.out, a9.out, (by repeat (first | (with_reducible first | exact HB.out | apply zA | apply zN | apply zD | refine zS ?_ b3.out | refine zS ?_ b5.out | refine zS ?_ b9.out | refine zS ?_ d1.out) | exact HB.out))⟩)
               ·skip
                refine box_step ?hg (N := 10) ?hd (cs := #[.int .i64 0, .int .i64 0]) (t := 93) ?hr ?_; (case hd => rfl); (case hg => rfl); (case hr => first | (go_simp; done) | (go_simp; rfl))
                intro u hg w13 hbox hb
                have n0_ := aM (bB (g := d) (o := .cells #[.int .i64 P, .int .i64 R, .int .i64 U, .int .i64 V, .int .i64 X, .bool Y] 40 (0, 0)) (by (with_reducible repeat (first | apply bN | apply bD | apply bA)); exact c.out) hb)
                have n1_ := aM (bB (g := s) (o := .cells #[.int .i64 b1, .int .i64 b2] 93 (0, 0)) (by (with_reducible repeat (first | apply bN | apply bD | apply bA)); exact m.out) hb)
                have n2_ := aM (bB (g := z) (o := .cells #[.int .i64 0, .int .i64 0] 93 (0, 0)) (by (with_reducible repeat (first | apply bN | apply bD | apply bA)); exact y.out) hb)
                have n3_ := aM (bB (g := q) (o := .cells #[.int .i64 0, .int .i64 0] 93 (0, 0)) (by (with_reducible repeat (first | apply bN | apply bD | apply bA)); exact C.out) hb)
                have n4_ := aM (below_step (by repeat (first | (with_reducible first | exact HB.out | apply zA | apply zN | apply zD | refine zS ?_ b3.out | refine zS ?_ b5.out | refine zS ?_ b9.out | refine zS ?_ d1.out) | exact HB.out)) hb)
                have n5_ := aM (hbox)
                have n6_ := aM ((by rw [hg]; exact (below_size (by repeat (first | (with_reducible first | exact HB.out | apply zA | apply zN | apply zD | refine zS ?_ b3.out | refine zS ?_ b5.out | refine zS ?_ b9.out | refine zS ?_ d1.out) | exact HB.out))) : w.heap.size ≤ u))
                have n7_ := aM ((by rw [hg]; exact (below_size (by repeat (first | (with_reducible first | exact HB.out | apply zA | apply zN | apply zD | refine zS ?_ b3.out | refine zS ?_ b5.out | refine zS ?_ b9.out | refine zS ?_ d1.out) | exact HB.out))) : w.heap.size ≤ u))
                have n8_ := aM ((by rw [hg]; exact Nat.ne_of_lt (blk_lt (g := d) (o := .cells #[.int .i64 P, .int .i64 R, .int .i64 U, .int .i64 V, .int .i64 X, .bool Y] 40 (0, 0)) (by (with_reducible repeat (first | apply bN | apply bD | apply bA)); exact c.out)) : d ≠ u))
                have n9_ := aM ((by rw [hg]; exact Nat.ne_of_gt (blk_lt (g := d) (o := .cells #[.int .i64 P, .int .i64 R, .int .i64 U, .int .i64 V, .int .i64 X, .bool Y] 40 (0, 0)) (by (with_reducible repeat (first | apply bN | apply bD | apply bA)); exact c.out)) : u ≠ d))
                have n10_ := aM ((by rw [hg]; exact Nat.ne_of_lt (blk_lt (g := s) (o := .cells #[.int .i64 b1, .int .i64 b2] 93 (0, 0)) (by (with_reducible repeat (first | apply bN | apply bD | apply bA)); exact m.out)) : s ≠ u))
                have n11_ := aM ((by rw [hg]; exact Nat.ne_of_gt (blk_lt (g := s) (o := .cells #[.int .i64 b1, .int .i64 b2] 93 (0, 0)) (by (with_reducible repeat (first | apply bN | apply bD | apply bA)); exact m.out)) : u ≠ s))
                have n12_ := aM ((by rw [hg]; exact Nat.ne_of_lt (blk_lt (g := z) (o := .cells #[.int .i64 0, .int .i64 0] 93 (0, 0)) (by (with_reducible repeat (first | apply bN | apply bD | apply bA)); exact y.out)) : z ≠ u))
                have n13_ := aM ((by rw [hg]; exact Nat.ne_of_gt (blk_lt (g := z) (o := .cells #[.int .i64 0, .int .i64 0] 93 (0, 0)) (by (with_reducible repeat (first | apply bN | apply bD | apply bA)); exact y.out)) : u ≠ z))
                have n14_ := aM ((by rw [hg]; exact Nat.ne_of_lt (blk_lt (g := q) (o := .cells #[.int .i64 0, .int .i64 0] 93 (0, 0)) (by (with_reducible repeat (first | apply bN | apply bD | apply bA)); exact C.out)) : q ≠ u))
                have n15_ := aM ((by rw [hg]; exact Nat.ne_of_gt (blk_lt (g := q) (o := .cells #[.int .i64 0, .int .i64 0] 93 (0, 0)) (by (with_reducible repeat (first | apply bN | apply bD | apply bA)); exact C.out)) : u ≠ q))
                clear c
                clear m
                clear y
                clear C
                clear HB
                have c := n0_
                have m := n1_
                have y := n2_
                have C := n3_
                have HB := n4_
                have A := n5_
                have e7 := n6_
                have d2 := n7_
                have D := n8_
                have b6 := n9_
                have L := n10_
                have b7 := n11_
                have G := n12_
                have b0 := n13_
                have b4 := n14_
                have b8 := n15_
                clear n0_ n1_ n2_ n3_ n4_ n5_ n6_ n7_ n8_ n9_ n10_ n11_ n12_ n13_ n14_ n15_
                clear hb hbox hg
                refine hK.out _ _ ⟨(blk_cell c.out 0).trans rfl, (blk_cell c.out 1).trans rfl, (blk_cell c.out 2).trans rfl, (blk_cell c.out 3).trans rfl, (blk_cell c.out 4).trans rfl, (blk_cell c.out 5).trans rfl, (blk_cell m.out 0).trans rfl, (blk_cell m.out 1).trans rfl⟩ (fun hHeld => ?_)
                clear hK K
                refine norm_ (a' := ?_) ?_ ?_
                rotate_left
                ·show Act.put _ (some 10) _ = _
                 simp only [Act.put, List.setIfInBounds_toArray, List.set_cons_zero, List.set_cons_succ, i64_w, i32_w]
                 rfl
                exact norm_ (by first | (simp only [putAll, Act.put, List.setIfInBounds_toArray, List.set_cons_zero, List.set_cons_succ]; done) | (simp only [putAll, Act.put, List.setIfInBounds_toArray, List.set_cons_zero, List.set_cons_succ]; rfl)) (hJ11_12 (q, u) _ ⟨hHeld, (by (with_reducible repeat (first | apply bN | apply bD | apply bA)); exact c.out), (by (with_reducible repeat (first | apply bN | apply bD | apply bA)); exact m.out), (by (with_reducible repeat (first | apply bN | apply bD | apply bA)); exact y.out), (by (with_reducible repeat (first | apply bN | apply bD | apply bA)); exact C.out), (by (with_reducible repeat (first | apply bN | apply bD | apply bA)); exact A.out), e6.out, d1.out, E.out, c0.out, Z.out, d0.out, J.out, a9.out, b8.out, b4.out, e7.out, d2.out, D.out, b6.out, L.out, b7.out, G.out, b0.out, (by repeat (first | (with_reducible first | exact HB.out | apply zA | apply zN | apply zD | refine zS ?_ b3.out | refine zS ?_ b5.out | refine zS ?_ b9.out | refine zS ?_ d1.out | refine zS ?_ d2.out) | exact HB.out))⟩)
             ·skip
              rintro _ w12 ⟨hS_, h0_, h1_, h2_, h3_⟩
              have n0_ : Aside0 (w12.heap[d]? = some (.cells #[.int .i64 P, .int .i64 R, .int .i64 U, .int .i64 V, .int .i64 X, .bool Y] 40 (0, 0))) := ⟨h0_⟩
              have n1_ : Aside0 (w12.heap[s]? = some (.cells #[.int .i64 b1, .int .i64 b2] 93 (0, 0))) := ⟨h1_⟩
              have n2_ : Aside0 (w12.heap[z]? = some (.cells #[.int .i64 0, .int .i64 0] 93 (0, 0))) := ⟨h2_⟩
              have n3_ : Aside0 (Below w.heap.size w w12) := ⟨h3_⟩
              clear c
              clear m
              clear y
              clear HB
              clear h0_ h1_ h2_ h3_
              have c := n0_
              have m := n1_
              have y := n2_
              have HB := n3_
              clear n0_ n1_ n2_ n3_
              have hHeld : w12.cell? ⟨d, 0, none⟩ = some (.int .i64 P) ∧ w12.cell? ⟨d, 1, none⟩ = some (.int .i64 R) ∧ w12.cell? ⟨d, 2, none⟩ = some (.int .i64 U) ∧ w12.cell? ⟨d, 3, none⟩ = some (.int .i64 V) ∧ w12.cell? ⟨d, 4, none⟩ = some (.int .i64 X) ∧ w12.cell? ⟨d, 5, none⟩ = some (.bool Y) ∧ w12.cell? ⟨s, 0, none⟩ = some (.int .i64 b1) ∧ w12.cell? ⟨s, 1, none⟩ = some (.int .i64 b2) := hS_
              refine norm_ (a' := ?_) ?_ ?_
              rotate_left
              ·simp only [putAll, Act.put, List.setIfInBounds_toArray, List.set_cons_zero, List.set_cons_succ]
               rfl
              refine three_ (i := 8) (j := 11) (k := 12) (Ni := some 22) (Nj := some 9) (Nk := some 10) #[true, true, true, true, true, true, true, true, true, true, false, false, false, false, false] #[true, true, true, true, true, true, true, true, false, true, false, true, false, false, false] #[true, true, true, true, true, true, true, true, false, true, false, false, true, false, false] rfl rfl rfl rfl rfl rfl (three_of HT_.out (by kernel_rfl)) (by decide) (by decide) (by decide) (fun K hK => ?_) (fun K hK => ?_) (fun K hK => ?_)
              ·skip
               refine goes_ Try.func121 (by kernel_rfl) rfl #[.agg #[.int .i64 P, .int .i64 R, .int .i64 U, .int .i64 V, .int .i64 X, .bool Y], .agg #[.int .i64 b1, .int .i64 b2], .int .i64 a2] (by rfl) rfl rfl (by (try simp only [List.map_toArray, List.map_cons, List.map_nil]); first | done | rfl) ?_
               with_reducible refine (spec_sdNext.calls k P R U V X Y b1 b2 a2 f4 f5 _ A5.out).mono ?_
               rintro e w13 ⟨rfl, hb⟩
               refine ⟨_, rfl, ?_⟩
               have n0_ := aM (bB (g := d) (o := .cells #[.int .i64 P, .int .i64 R, .int .i64 U, .int .i64 V, .int .i64 X, .bool Y] 40 (0, 0)) (by (with_reducible repeat (first | apply bN | apply bD | apply bA)); exact c.out) hb)
               have n1_ := aM (bB (g := s) (o := .cells #[.int .i64 b1, .int .i64 b2] 93 (0, 0)) (by (with_reducible repeat (first | apply bN | apply bD | apply bA)); exact m.out) hb)
               have n2_ := aM (bB (g := z) (o := .cells #[.int .i64 0, .int .i64 0] 93 (0, 0)) (by (with_reducible repeat (first | apply bN | apply bD | apply bA)); exact y.out) hb)
               have n3_ := aM (below_step (by repeat (first | (with_reducible first | exact HB.out | apply zA | apply zN | apply zD | refine zS ?_ b3.out | refine zS ?_ b5.out | refine zS ?_ b9.out) | exact HB.out)) hb)
               clear c
               clear m
               clear y
               clear HB
               have c := n0_
               have m := n1_
               have y := n2_
               have HB := n3_
               clear n0_ n1_ n2_ n3_
               (try clear hb)
               (try clear hb2)
               (try clear hk)
               (try clear hi)
               refine hK.out _ _ ⟨(blk_cell c.out 0).trans rfl, (blk_cell c.out 1).trans rfl, (blk_cell c.out 2).trans rfl, (blk_cell c.out 3).trans rfl, (blk_cell c.out 4).trans rfl, (blk_cell c.out 5).trans rfl, (blk_cell m.out 0).trans rfl, (blk_cell m.out 1).trans rfl⟩ (fun hHeld => ?_)
               clear hK K
               refine norm_ (a' := ?_) ?_ ?_
               rotate_left
               ·show Act.put _ (some 22) _ = _
                simp only [Act.put, List.setIfInBounds_toArray, List.set_cons_zero, List.set_cons_succ, i64_w, i32_w]
                rfl
               exact norm_ (by first | (simp only [putAll, Act.put, List.setIfInBounds_toArray, List.set_cons_zero, List.set_cons_succ]; done) | (simp only [putAll, Act.put, List.setIfInBounds_toArray, List.set_cons_zero, List.set_cons_succ]; rfl)) (hJ3_8 () _ ⟨hHeld, (by (with_reducible repeat (first | apply bN | apply bD | apply bA)); exact c.out), (by (with_reducible repeat (first | apply bN | apply bD | apply bA)); exact m.out), (by (with_reducible repeat (first | apply bN | apply bD | apply bA)); exact y.out), (by repeat (first | (with_reducible first | exact HB.out | apply zA | apply zN | apply zD | refine zS ?_ b3.out | refine zS ?_ b5.out | refine zS ?_ b9.out) | exact HB.out))⟩)
              ·skip
               refine box_step ?hg (N := 9) ?hd (cs := #[.int .i64 0, .int .i64 0]) (t := 93) ?hr ?_; (case hd => rfl); (case hg => rfl); (case hr => first | (go_simp; done) | (go_simp; rfl))
               intro q hg w13 hbox hb
               have n0_ := aM (bB (g := d) (o := .cells #[.int .i64 P, .int .i64 R, .int .i64 U, .int .i64 V, .int .i64 X, .bool Y] 40 (0, 0)) (by (with_reducible repeat (first | apply bN | apply bD | apply bA)); exact c.out) hb)
               have n1_ := aM (bB (g := s) (o := .cells #[.int .i64 b1, .int .i64 b2] 93 (0, 0)) (by (with_reducible repeat (first | apply bN | apply bD | apply bA)); exact m.out) hb)
               have n2_ := aM (bB (g := z) (o := .cells #[.int .i64 0, .int .i64 0] 93 (0, 0)) (by (with_reducible repeat (first | apply bN | apply bD | apply bA)); exact y.out) hb)
               have n3_ := aM (below_step (by repeat (first | (with_reducible first | exact HB.out | apply zA | apply zN | apply zD | refine zS ?_ b3.out | refine zS ?_ b5.out | refine zS ?_ b9.out) | exact HB.out)) hb)
               have n4_ := aM (hbox)
               have n5_ := aM ((by rw [hg]; exact (below_size (by repeat (first | (with_reducible first | exact HB.out | apply zA | apply zN | apply zD | refine zS ?_ b3.out | refine zS ?_ b5.out | refine zS ?_ b9.out) | exact HB.out))) : w.heap.size ≤ q))
               have n6_ := aM ((by rw [hg]; exact (below_size (by repeat (first | (with_reducible first | exact HB.out | apply zA | apply zN | apply zD | refine zS ?_ b3.out | refine zS ?_ b5.out | refine zS ?_ b9.out) | exact HB.out))) : w.heap.size ≤ q))
               have n7_ := aM ((by rw [hg]; exact Nat.ne_of_lt (blk_lt (g := d) (o := .cells #[.int .i64 P, .int .i64 R, .int .i64 U, .int .i64 V, .int .i64 X, .bool Y] 40 (0, 0)) (by (with_reducible repeat (first | apply bN | apply bD | apply bA)); exact c.out)) : d ≠ q))
               have n8_ := aM ((by rw [hg]; exact Nat.ne_of_gt (blk_lt (g := d) (o := .cells #[.int .i64 P, .int .i64 R, .int .i64 U, .int .i64 V, .int .i64 X, .bool Y] 40 (0, 0)) (by (with_reducible repeat (first | apply bN | apply bD | apply bA)); exact c.out)) : q ≠ d))
               have n9_ := aM ((by rw [hg]; exact Nat.ne_of_lt (blk_lt (g := s) (o := .cells #[.int .i64 b1, .int .i64 b2] 93 (0, 0)) (by (with_reducible repeat (first | apply bN | apply bD | apply bA)); exact m.out)) : s ≠ q))
               have n10_ := aM ((by rw [hg]; exact Nat.ne_of_gt (blk_lt (g := s) (o := .cells #[.int .i64 b1, .int .i64 b2] 93 (0, 0)) (by (with_reducible repeat (first | apply bN | apply bD | apply bA)); exact m.out)) : q ≠ s))
               have n11_ := aM ((by rw [hg]; exact Nat.ne_of_lt (blk_lt (g := z) (o := .cells #[.int .i64 0, .int .i64 0] 93 (0, 0)) (by (with_reducible repeat (first | apply bN | apply bD | apply bA)); exact y.out)) : z ≠ q))
               have n12_ := aM ((by rw [hg]; exact Nat.ne_of_gt (blk_lt (g := z) (o := .cells #[.int .i64 0, .int .i64 0] 93 (0, 0)) (by (with_reducible repeat (first | apply bN | apply bD | apply bA)); exact y.out)) : q ≠ z))
               clear c
               clear m
               clear y
               clear HB
               have c := n0_
               have m := n1_
               have y := n2_
               have HB := n3_
               have C := n4_
               have e6 := n5_
               have d1 := n6_
               have E := n7_
               have c0 := n8_
               have Z := n9_
               have d0 := n10_
               have J := n11_
               have a9 := n12_
               clear n0_ n1_ n2_ n3_ n4_ n5_ n6_ n7_ n8_ n9_ n10_ n11_ n12_
               clear hb hbox hg
               refine hK.out _ _ ⟨(blk_cell c.out 0).trans rfl, (blk_cell c.out 1).trans rfl, (blk_cell c.out 2).trans rfl, (blk_cell c.out 3).trans rfl, (blk_cell c.out 4).trans rfl, (blk_cell c.out 5).trans rfl, (blk_cell m.out 0).trans rfl, (blk_cell m.out 1).trans rfl⟩ (fun hHeld => ?_)
               clear hK K
               refine norm_ (a' := ?_) ?_ ?_
               rotate_left
               ·show Act.put _ (some 9) _ = _
                simp only [Act.put, List.setIfInBounds_toArray, List.set_cons_zero, List.set_cons_succ, i64_w, i32_w]
                rfl
               exact norm_ (by first | (simp only [putAll, Act.put, List.setIfInBounds_toArray, List.set_cons_zero, List.set_cons_succ]; done) | (simp only [putAll, Act.put, List.setIfInBounds_toArray, List.set_cons_zero, List.set_cons_succ]; rfl)) (hJ3_11 (q) _ ⟨hHeld, (by (with_reducible repeat (first | apply bN | apply bD | apply bA)); exact c.out), (by (with_reducible repeat (first | apply bN | apply bD | apply bA)); exact m.out), (by (with_reducible repeat (first | apply bN | apply bD | apply bA)); exact y.out), (by (with_reducible repeat (first | apply bN | apply bD | apply bA)); exact C.out), e6.out, d1.out, E.out, c0.out, Z.out, d0.out, J.out, a9.out, (by repeat (first | (with_reducible first | exact HB.out | apply zA | apply zN | apply zD | refine zS ?_ b3.out | refine zS ?_ b5.out | refine zS ?_ b9.out | refine zS ?_ d1.out) | exact HB.out))⟩)
              ·skip
               refine box_step ?hg (N := 10) ?hd (cs := #[.int .i64 0, .int .i64 0]) (t := 93) ?hr ?_; (case hd => rfl); (case hg => rfl); (case hr => first | (go_simp; done) | (go_simp; rfl))
               intro u hg w13 hbox hb
               have n0_ := aM (bB (g := d) (o := .cells #[.int .i64 P, .int .i64 R, .int .i64 U, .int .i64 V, .int .i64 X, .bool Y] 40 (0, 0)) (by (with_reducible repeat (first | apply bN | apply bD | apply bA)); exact c.out) hb)
               have n1_ := aM (bB (g := s) (o := .cells #[.int .i64 b1, .int .i64 b2] 93 (0, 0)) (by (with_reducible repeat (first | apply bN | apply bD | apply bA)); exact m.out) hb)
               have n2_ := aM (bB (g := z) (o := .cells #[.int .i64 0, .int .i64 0] 93 (0, 0)) (by (with_reducible repeat (first | apply bN | apply bD | apply bA)); exact y.out) hb)
               have n3_ := aM (below_step (by repeat (first | (with_reducible first | exact HB.out | apply zA | apply zN | apply zD | refine zS ?_ b3.out | refine zS ?_ b5.out | refine zS ?_ b9.out) | exact HB.out)) hb)
               have n4_ := aM (hbox)
               have n5_ := aM ((by rw [hg]; exact (below_size (by repeat (first | (with_reducible first | exact HB.out | apply zA | apply zN | apply zD | refine zS ?_ b3.out | refine zS ?_ b5.out | refine zS ?_ b9.out) | exact HB.out))) : w.heap.size ≤ u))
               have n6_ := aM ((by rw [hg]; exact (below_size (by repeat (first | (with_reducible first | exact HB.out | apply zA | apply zN | apply zD | refine zS ?_ b3.out | refine zS ?_ b5.out | refine zS ?_ b9.out) | exact HB.out))) : w.heap.size ≤ u))
               have n7_ := aM ((by rw [hg]; exact Nat.ne_of_lt (blk_lt (g := d) (o := .cells #[.int .i64 P, .int .i64 R, .int .i64 U, .int .i64 V, .int .i64 X, .bool Y] 40 (0, 0)) (by (with_reducible repeat (first | apply bN | apply bD | apply bA)); exact c.out)) : d ≠ u))
               have n8_ := aM ((by rw [hg]; exact Nat.ne_of_gt (blk_lt (g := d) (o := .cells #[.int .i64 P, .int .i64 R, .int .i64 U, .int .i64 V, .int .i64 X, .bool Y] 40 (0, 0)) (by (with_reducible repeat (first | apply bN | apply bD | apply bA)); exact c.out)) : u ≠ d))
               have n9_ := aM ((by rw [hg]; exact Nat.ne_of_lt (blk_lt (g := s) (o := .cells #[.int .i64 b1, .int .i64 b2] 93 (0, 0)) (by (with_reducible repeat (first | apply bN | apply bD | apply bA)); exact m.out)) : s ≠ u))
               have n10_ := aM ((by rw [hg]; exact Nat.ne_of_gt (blk_lt (g := s) (o := .cells #[.int .i64 b1, .int .i64 b2] 93 (0, 0)) (by (with_reducible repeat (first | apply bN | apply bD | apply bA)); exact m.out)) : u ≠ s))
               have n11_ := aM ((by rw [hg]; exact Nat.ne_of_lt (blk_lt (g := z) (o := .cells #[.int .i64 0, .int .i64 0] 93 (0, 0)) (by (with_reducible repeat (first | apply bN | apply bD | apply bA)); exact y.out)) : z ≠ u))
               have n12_ := aM ((by rw [hg]; exact Nat.ne_of_gt (blk_lt (g := z) (o := .cells #[.int .i64 0, .int .i64 0] 93 (0, 0)) (by (with_reducible repeat (first | apply bN | apply bD | apply bA)); exact y.out)) : u ≠ z))
               clear c
               clear m
               clear y
               clear HB
               have c := n0_
               have m := n1_
               have y := n2_
               have HB := n3_
               have A := n4_
               have e7 := n5_
               have d2 := n6_
               have D := n7_
               have b6 := n8_
               have L := n9_
               have b7 := n10_
               have G := n11_
               have b0 := n12_
               clear n0_ n1_ n2_ n3_ n4_ n5_ n6_ n7_ n8_ n9_ n10_ n11_ n12_
               clear hb hbox hg
               refine hK.out _ _ ⟨(blk_cell c.out 0).trans rfl, (blk_cell c.out 1).trans rfl, (blk_cell c.out 2).trans rfl, (blk_cell c.out 3).trans rfl, (blk_cell c.out 4).trans rfl, (blk_cell c.out 5).trans rfl, (blk_cell m.out 0).trans rfl, (blk_cell m.out 1).trans rfl⟩ (fun hHeld => ?_)
               clear hK K
               refine norm_ (a' := ?_) ?_ ?_
               rotate_left
               ·show Act.put _ (some 10) _ = _
                simp only [Act.put, List.setIfInBounds_toArray, List.set_cons_zero, List.set_cons_succ, i64_w, i32_w]
                rfl
               exact norm_ (by first | (simp only [putAll, Act.put, List.setIfInBounds_toArray, List.set_cons_zero, List.set_cons_succ]; done) | (simp only [putAll, Act.put, List.setIfInBounds_toArray, List.set_cons_zero, List.set_cons_succ]; rfl)) (hJ3_12 (u) _ ⟨hHeld, (by (with_reducible repeat (first | apply bN | apply bD | apply bA)); exact c.out), (by (with_reducible repeat (first | apply bN | apply bD | apply bA)); exact m.out), (by (with_reducible repeat (first | apply bN | apply bD | apply bA)); exact y.out), (by (with_reducible repeat (first | apply bN | apply bD | apply bA)); exact A.out), e7.out, d2.out, D.out, b6.out, L.out, b7.out, G.out, b0.out, (by repeat (first | (with_reducible first | exact HB.out | apply zA | apply zN | apply zD | refine zS ?_ b3.out | refine zS ?_ b5.out | refine zS ?_ b9.out | refine zS ?_ d2.out) | exact HB.out))⟩)
            ·skip
             rintro ⟨q, u⟩ w13 ⟨hS_, h0_, h1_, h2_, h3_, h4_, h5_, h6_, h7_, h8_, h9_, h10_, h11_, h12_, h13_, h14_, h15_, h16_, h17_, h18_, h19_, h20_, h21_, h22_, h23_⟩
             have n0_ : Aside0 (w13.heap[d]? = some (.cells #[.int .i64 P, .int .i64 R, .int .i64 U, .int .i64 V, .int .i64 X, .bool Y] 40 (0, 0))) := ⟨h0_⟩
             have n1_ : Aside0 (w13.heap[s]? = some (.cells #[.int .i64 b1, .int .i64 b2] 93 (0, 0))) := ⟨h1_⟩
             have n2_ : Aside0 (w13.heap[z]? = some (.cells #[.int .i64 0, .int .i64 0] 93 (0, 0))) := ⟨h2_⟩
             have n3_ : Aside0 (w13.heap[q]? = some (.cells #[.int .i64 0, .int .i64 0] 93 (0, 0))) := ⟨h3_⟩
             have n4_ : Aside0 (w13.heap[u]? = some (.cells #[.int .i64 0, .int .i64 0] 93 (0, 0))) := ⟨h4_⟩
             have n5_ : Aside0 (w.heap.size ≤ q) := ⟨h5_⟩
             have n6_ : Aside0 (w.heap.size ≤ q) := ⟨h6_⟩
             have n7_ : Aside0 (d ≠ q) := ⟨h7_⟩
             have n8_ : Aside0 (q ≠ d) := ⟨h8_⟩
             have n9_ : Aside0 (s ≠ q) := ⟨h9_⟩
             have n10_ : Aside0 (q ≠ s) := ⟨h10_⟩
             have n11_ : Aside0 (z ≠ q) := ⟨h11_⟩
             have n12_ : Aside0 (q ≠ z) := ⟨h12_⟩
             have n13_ : Aside0 (u ≠ q) := ⟨h13_⟩
             have n14_ : Aside0 (q ≠ u) := ⟨h14_⟩
             have n15_ : Aside0 (w.heap.size ≤ u) := ⟨h15_⟩
             have n16_ : Aside0 (w.heap.size ≤ u) := ⟨h16_⟩
             have n17_ : Aside0 (d ≠ u) := ⟨h17_⟩
             have n18_ : Aside0 (u ≠ d) := ⟨h18_⟩
             have n19_ : Aside0 (s ≠ u) := ⟨h19_⟩
             have n20_ : Aside0 (u ≠ s) := ⟨h20_⟩
             have n21_ : Aside0 (z ≠ u) := ⟨h21_⟩
             have n22_ : Aside0 (u ≠ z) := ⟨h22_⟩
             have n23_ : Aside0 (Below w.heap.size w w13) := ⟨h23_⟩
             clear c
             clear m
             clear y
             clear HB
             clear h0_ h1_ h2_ h3_ h4_ h5_ h6_ h7_ h8_ h9_ h10_ h11_ h12_ h13_ h14_ h15_ h16_ h17_ h18_ h19_ h20_ h21_ h22_ h23_
             have c := n0_
             have m := n1_
             have y := n2_
             have C := n3_
             have A := n4_
             have e6 := n5_
             have d1 := n6_
             have E := n7_
             have c0 := n8_
             have Z := n9_
             have d0 := n10_
             have J := n11_
             have a9 := n12_
             have b8 := n13_
             have b4 := n14_
             have e7 := n15_
             have d2 := n16_
             have D := n17_
             have b6 := n18_
             have L := n19_
             have b7 := n20_
             have G := n21_
             have b0 := n22_
             have HB := n23_
             clear n0_ n1_ n2_ n3_ n4_ n5_ n6_ n7_ n8_ n9_ n10_ n11_ n12_ n13_ n14_ n15_ n16_ n17_ n18_ n19_ n20_ n21_ n22_ n23_
             have hHeld : w13.cell? ⟨d, 0, none⟩ = some (.int .i64 P) ∧ w13.cell? ⟨d, 1, none⟩ = some (.int .i64 R) ∧ w13.cell? ⟨d, 2, none⟩ = some (.int .i64 U) ∧ w13.cell? ⟨d, 3, none⟩ = some (.int .i64 V) ∧ w13.cell? ⟨d, 4, none⟩ = some (.int .i64 X) ∧ w13.cell? ⟨d, 5, none⟩ = some (.bool Y) ∧ w13.cell? ⟨s, 0, none⟩ = some (.int .i64 b1) ∧ w13.cell? ⟨s, 1, none⟩ = some (.int .i64 b2) := hS_
             refine norm_ (a' := ?_) ?_ ?_
             rotate_left
             ·simp only [putAll, Act.put, List.setIfInBounds_toArray, List.set_cons_zero, List.set_cons_succ]
              rfl
             refine one_ (i := 3) (N := some 17) #[true, true, true, true, true, true, true, true, false, true, false, true, true, false, false] rfl rfl (one_of HT_.out (by kernel_rfl)) (by decide) (fun K hK => ?_)
             refine goes_ Try.func121 (by kernel_rfl) rfl #[.agg #[.int .i64 P, .int .i64 R, .int .i64 U, .int .i64 V, .int .i64 X, .bool Y], .agg #[.int .i64 b1, .int .i64 b2], .int .i64 a2] (by rfl) rfl rfl (by (try simp only [List.map_toArray, List.map_cons, List.map_nil]); first | done | rfl) ?_
             with_reducible refine (spec_sdNext.calls k P R U V X Y b1 b2 a2 f3 f6 _ A4.out).mono ?_
             rintro e w14 ⟨rfl, hb⟩
             refine ⟨_, rfl, ?_⟩
             have n0_ := aM (bB (g := d) (o := .cells #[.int .i64 P, .int .i64 R, .int .i64 U, .int .i64 V, .int .i64 X, .bool Y] 40 (0, 0)) (by (with_reducible repeat (first | apply bN | apply bD | apply bA)); exact c.out) hb)
             have n1_ := aM (bB (g := s) (o := .cells #[.int .i64 b1, .int .i64 b2] 93 (0, 0)) (by (with_reducible repeat (first | apply bN | apply bD | apply bA)); exact m.out) hb)
             have n2_ := aM (bB (g := z) (o := .cells #[.int .i64 0, .int .i64 0] 93 (0, 0)) (by (with_reducible repeat (first | apply bN | apply bD | apply bA)); exact y.out) hb)
             have n3_ := aM (bB (g := q) (o := .cells #[.int .i64 0, .int .i64 0] 93 (0, 0)) (by (with_reducible repeat (first | apply bN | apply bD | apply bA)); exact C.out) hb)
             have n4_ := aM (bB (g := u) (o := .cells #[.int .i64 0, .int .i64 0] 93 (0, 0)) (by (with_reducible repeat (first | apply bN | apply bD | apply bA)); exact A.out) hb)
             have n5_ := aM (below_step (by repeat (first | (with_reducible first | exact HB.out | apply zA | apply zN | apply zD | refine zS ?_ b3.out | refine zS ?_ b5.out | refine zS ?_ b9.out | refine zS ?_ d1.out | refine zS ?_ d2.out) | exact HB.out)) hb)
             clear c
             clear m
             clear y
             clear C
             clear A
             clear HB
             have c := n0_
             have m := n1_
             have y := n2_
             have C := n3_
             have A := n4_
             have HB := n5_
             clear n0_ n1_ n2_ n3_ n4_ n5_
             (try clear hb)
             (try clear hb2)
             (try clear hk)
             (try clear hi)
             refine hK.out _ _ ⟨(blk_cell c.out 0).trans rfl, (blk_cell c.out 1).trans rfl, (blk_cell c.out 2).trans rfl, (blk_cell c.out 3).trans rfl, (blk_cell c.out 4).trans rfl, (blk_cell c.out 5).trans rfl, (blk_cell m.out 0).trans rfl, (blk_cell m.out 1).trans rfl⟩ (fun hHeld => ?_)
             clear hK K
             refine norm_ (a' := ?_) ?_ ?_
             rotate_left
             ·show Act.put _ (some 17) _ = _
              simp only [Act.put, List.setIfInBounds_toArray, List.set_cons_zero, List.set_cons_succ, i64_w, i32_w]
              rfl
             exact norm_ (by first | (simp only [putAll, Act.put, List.setIfInBounds_toArray, List.set_cons_zero, List.set_cons_succ]; done) | (simp only [putAll, Act.put, List.setIfInBounds_toArray, List.set_cons_zero, List.set_cons_succ]; rfl)) (hJ3_11_12 (q, u) _ ⟨hHeld, (by (with_reducible repeat (first | apply bN | apply bD | apply bA)); exact c.out), (by (with_reducible repeat (first | apply bN | apply bD | apply bA)); exact m.out), (by (with_reducible repeat (first | apply bN | apply bD | apply bA)); exact y.out), (by (with_reducible repeat (first | apply bN | apply bD | apply bA)); exact C.out), (by (with_reducible repeat (first | apply bN | apply bD | apply bA)); exact A.out), e6.out, d1.out, E.out, c0.out, Z.out, d0.out, J.out, a9.out, b8.out, b4.out, e7.out, d2.out, D.out, b6.out, L.out, b7.out, G.out, b0.out, (by repeat (first | (with_reducible first | exact HB.out | apply zA | apply zN | apply zD | refine zS ?_ b3.out | refine zS ?_ b5.out | refine zS ?_ b9.out | refine zS ?_ d1.out | refine zS ?_ d2.out) | exact HB.out))⟩)
           ·skip
            rintro u w13 ⟨hS_, h0_, h1_, h2_, h3_, h4_, h5_, h6_, h7_, h8_, h9_, h10_, h11_, h12_⟩
            have n0_ : Aside0 (w13.heap[d]? = some (.cells #[.int .i64 P, .int .i64 R, .int .i64 U, .int .i64 V, .int .i64 X, .bool Y] 40 (0, 0))) := ⟨h0_⟩
            have n1_ : Aside0 (w13.heap[s]? = some (.cells #[.int .i64 b1, .int .i64 b2] 93 (0, 0))) := ⟨h1_⟩
            have n2_ : Aside0 (w13.heap[z]? = some (.cells #[.int .i64 0, .int .i64 0] 93 (0, 0))) := ⟨h2_⟩
            have n3_ : Aside0 (w13.heap[u]? = some (.cells #[.int .i64 0, .int .i64 0] 93 (0, 0))) := ⟨h3_⟩
            have n4_ : Aside0 (w.heap.size ≤ u) := ⟨h4_⟩
            have n5_ : Aside0 (w.heap.size ≤ u) := ⟨h5_⟩
            have n6_ : Aside0 (d ≠ u) := ⟨h6_⟩
            have n7_ : Aside0 (u ≠ d) := ⟨h7_⟩
            have n8_ : Aside0 (s ≠ u) := ⟨h8_⟩
            have n9_ : Aside0 (u ≠ s) := ⟨h9_⟩
            have n10_ : Aside0 (z ≠ u) := ⟨h10_⟩
            have n11_ : Aside0 (u ≠ z) := ⟨h11_⟩
            have n12_ : Aside0 (Below w.heap.size w w13) := ⟨h12_⟩
            clear c
            clear m
            clear y
            clear HB
            clear h0_ h1_ h2_ h3_ h4_ h5_ h6_ h7_ h8_ h9_ h10_ h11_ h12_
            have c := n0_
            have m := n1_
            have y := n2_
            have A := n3_
            have e7 := n4_
            have d2 := n5_
            have D := n6_
            have b6 := n7_
            have L := n8_
            have b7 := n9_
            have G := n10_
            have b0 := n11_
            have HB := n12_
            clear n0_ n1_ n2_ n3_ n4_ n5_ n6_ n7_ n8_ n9_ n10_ n11_ n12_
            have hHeld : w13.cell? ⟨d, 0, none⟩ = some (.int .i64 P) ∧ w13.cell? ⟨d, 1, none⟩ = some (.int .i64 R) ∧ w13.cell? ⟨d, 2, none⟩ = some (.int .i64 U) ∧ w13.cell? ⟨d, 3, none⟩ = some (.int .i64 V) ∧ w13.cell? ⟨d, 4, none⟩ = some (.int .i64 X) ∧ w13.cell? ⟨d, 5, none⟩ = some (.bool Y) ∧ w13.cell? ⟨s, 0, none⟩ = some (.int .i64 b1) ∧ w13.cell? ⟨s, 1, none⟩ = some (.int .i64 b2) := hS_
            refine norm_ (a' := ?_) ?_ ?_
            rotate_left
            ·simp only [putAll, Act.put, List.setIfInBounds_toArray, List.set_cons_zero, List.set_cons_succ]
             rfl
            refine two_ (i := 8) (j := 11) (Ni := some 22) (Nj := some 9) #[true, true, true, true, true, true, true, true, true, true, false, false, true, false, false] #[true, true, true, true, true, true, true, true, false, true, false, true, true, false, false] rfl rfl rfl rfl (two_of HT_.out (by kernel_rfl)) (by decide) (by decide) (fun K hK => ?_) (fun K hK => ?_)
            ·skip
             refine goes_ Try.func121 (by kernel_rfl) rfl #[.agg #[.int .i64 P, .int .i64 R, .int .i64 U, .int .i64 V, .int .i64 X, .bool Y], .agg #[.int .i64 b1, .int .i64 b2], .int .i64 a2] (by rfl) rfl rfl (by (try simp only [List.map_toArray, List.map_cons, List.map_nil]); first | done | rfl) ?_
             with_reducible refine (spec_sdNext.calls k P R U V X Y b1 b2 a2 f4 f5 _ A5.out).mono ?_
             rintro e w14 ⟨rfl, hb⟩
             refine ⟨_, rfl, ?_⟩
             have n0_ := aM (bB (g := d) (o := .cells #[.int .i64 P, .int .i64 R, .int .i64 U, .int .i64 V, .int .i64 X, .bool Y] 40 (0, 0)) (by (with_reducible repeat (first | apply bN | apply bD | apply bA)); exact c.out) hb)
             have n1_ := aM (bB (g := s) (o := .cells #[.int .i64 b1, .int .i64 b2] 93 (0, 0)) (by (with_reducible repeat (first | apply bN | apply bD | apply bA)); exact m.out) hb)
             have n2_ := aM (bB (g := z) (o := .cells #[.int .i64 0, .int .i64 0] 93 (0, 0)) (by (with_reducible repeat (first | apply bN | apply bD | apply bA)); exact y.out) hb)
             have n3_ := aM (bB (g := u) (o := .cells #[.int .i64 0, .int .i64 0] 93 (0, 0)) (by (with_reducible repeat (first | apply bN | apply bD | apply bA)); exact A.out) hb)
             have n4_ := aM (below_step (by repeat (first | (with_reducible first | exact HB.out | apply zA | apply zN | apply zD | refine zS ?_ b3.out | refine zS ?_ b5.out | refine zS ?_ b9.out | refine zS ?_ d2.out) | exact HB.out)) hb)
             clear c
             clear m
             clear y
             clear A
             clear HB
             have c := n0_
             have m := n1_
             have y := n2_
             have A := n3_
             have HB := n4_
             clear n0_ n1_ n2_ n3_ n4_
             (try clear hb)
             (try clear hb2)
             (try clear hk)
             (try clear hi)
             refine hK.out _ _ ⟨(blk_cell c.out 0).trans rfl, (blk_cell c.out 1).trans rfl, (blk_cell c.out 2).trans rfl, (blk_cell c.out 3).trans rfl, (blk_cell c.out 4).trans rfl, (blk_cell c.out 5).trans rfl, (blk_cell m.out 0).trans rfl, (blk_cell m.out 1).trans rfl⟩ (fun hHeld => ?_)
             clear hK K
             refine norm_ (a' := ?_) ?_ ?_
             rotate_left
             ·show Act.put _ (some 22) _ = _
              simp only [Act.put, List.setIfInBounds_toArray, List.set_cons_zero, List.set_cons_succ, i64_w, i32_w]
              rfl
             exact norm_ (by first | (simp only [putAll, Act.put, List.setIfInBounds_toArray, List.set_cons_zero, List.set_cons_succ]; done) | (simp only [putAll, Act.put, List.setIfInBounds_toArray, List.set_cons_zero, List.set_cons_succ]; rfl)) (hJ3_8_12 (u) _ ⟨hHeld, (by (with_reducible repeat (first | apply bN | apply bD | apply bA)); exact c.out), (by (with_reducible repeat (first | apply bN | apply bD | apply bA)); exact m.out), (by (with_reducible repeat (first | apply bN | apply bD | apply bA)); exact y.out), (by (with_reducible repeat (first | apply bN | apply bD | apply bA)); exact A.out), e7.out, d2.out, D.out, b6.out, L.out, b7.out, G.out, b0.out, (by repeat (first | (with_reducible first | exact HB.out | apply zA | apply zN | apply zD | refine zS ?_ b3.out | refine zS ?_ b5.out | refine zS ?_ b9.out | refine zS ?_ d2.out) | exact HB.out))⟩)
            ·skip
             refine box_step ?hg (N := 9) ?hd (cs := #[.int .i64 0, .int .i64 0]) (t := 93) ?hr ?_; (case hd => rfl); (case hg => rfl); (case hr => first | (go_simp; done) | (go_simp; rfl))
             intro q hg w14 hbox hb
             have n0_ := aM (bB (g := d) (o := .cells #[.int .i64 P, .int .i64 R, .int .i64 U, .int .i64 V, .int .i64 X, .bool Y] 40 (0, 0)) (by (with_reducible repeat (first | apply bN | apply bD | apply bA)); exact c.out) hb)
             have n1_ := aM (bB (g := s) (o := .cells #[.int .i64 b1, .int .i64 b2] 93 (0, 0)) (by (with_reducible repeat (first | apply bN | apply bD | apply bA)); exact m.out) hb)
             have n2_ := aM (bB (g := z) (o := .cells #[.int .i64 0, .int .i64 0] 93 (0, 0)) (by (with_reducible repeat (first | apply bN | apply bD | apply bA)); exact y.out) hb)
             have n3_ := aM (bB (g := u) (o := .cells #[.int .i64 0, .int .i64 0] 93 (0, 0)) (by (with_reducible repeat (first | apply bN | apply bD | apply bA)); exact A.out) hb)
             have n4_ := aM (below_step (by repeat (first | (with_reducible first | exact HB.out | apply zA | apply zN | apply zD | refine zS ?_ b3.out | refine zS ?_ b5.out | refine zS ?_ b9.out | refine zS ?_ d2.out) | exact HB.out)) hb)
             have n5_ := aM (hbox)
             have n6_ := aM ((by rw [hg]; exact (below_size (by repeat (first | (with_reducible first | exact HB.out | apply zA | apply zN | apply zD | refine zS ?_ b3.out | refine zS ?_ b5.out | refine zS ?_ b9.out | refine zS ?_ d2.out) | exact HB.out))) : w.heap.size ≤ q))
             have n7_ := aM ((by rw [hg]; exact (below_size (by repeat (first | (with_reducible first | exact HB.out | apply zA | apply zN | apply zD | refine zS ?_ b3.out | refine zS ?_ b5.out | refine zS ?_ b9.out | refine zS ?_ d2.out) | exact HB.out))) : w.heap.size ≤ q))
             have n8_ := aM ((by rw [hg]; exact Nat.ne_of_lt (blk_lt (g := d) (o := .cells #[.int .i64 P, .int .i64 R, .int .i64 U, .int .i64 V, .int .i64 X, .bool Y] 40 (0, 0)) (by (with_reducible repeat (first | apply bN | apply bD | apply bA)); exact c.out)) : d ≠ q))
             have n9_ := aM ((by rw [hg]; exact Nat.ne_of_gt (blk_lt (g := d) (o := .cells #[.int .i64 P, .int .i64 R, .int .i64 U, .int .i64 V, .int .i64 X, .bool Y] 40 (0, 0)) (by (with_reducible repeat (first | apply bN | apply bD | apply bA)); exact c.out)) : q ≠ d))
             have n10_ := aM ((by rw [hg]; exact Nat.ne_of_lt (blk_lt (g := s) (o := .cells #[.int .i64 b1, .int .i64 b2] 93 (0, 0)) (by (with_reducible repeat (first | apply bN | apply bD | apply bA)); exact m.out)) : s ≠ q))
             have n11_ := aM ((by rw [hg]; exact Nat.ne_of_gt (blk_lt (g := s) (o := .cells #[.int .i64 b1, .int .i64 b2] 93 (0, 0)) (by (with_reducible repeat (first | apply bN | apply bD | apply bA)); exact m.out)) : q ≠ s))
             have n12_ := aM ((by rw [hg]; exact Nat.ne_of_lt (blk_lt (g := z) (o := .cells #[.int .i64 0, .int .i64 0] 93 (0, 0)) (by (with_reducible repeat (first | apply bN | apply bD | apply bA)); exact y.out)) : z ≠ q))
             have n13_ := aM ((by rw [hg]; exact Nat.ne_of_gt (blk_lt (g := z) (o := .cells #[.int .i64 0, .int .i64 0] 93 (0, 0)) (by (with_reducible repeat (first | apply bN | apply bD | apply bA)); exact y.out)) : q ≠ z))
             have n14_ := aM ((by rw [hg]; exact Nat.ne_of_lt (blk_lt (g := u) (o := .cells #[.int .i64 0, .int .i64 0] 93 (0, 0)) (by (with_reducible repeat (first | apply bN | apply bD | apply bA)); exact A.out)) : u ≠ q))
             have n15_ := aM ((by rw [hg]; exact Nat.ne_of_gt (blk_lt (g := u) (o := .cells #[.int .i64 0, .int .i64 0] 93 (0, 0)) (by (with_reducible repeat (first | apply bN | apply bD | apply bA)); exact A.out)) : q ≠ u))
             clear c
             clear m
             clear y
             clear A
             clear HB
             have c := n0_
             have m := n1_
             have y := n2_
             have A := n3_
             have HB := n4_
             have C := n5_
             have e6 := n6_
             have d1 := n7_
             have E := n8_
             have c0 := n9_
             have Z := n10_
             have d0 := n11_
             have J := n12_
             have a9 := n13_
             have b8 := n14_
             have b4 := n15_
             clear n0_ n1_ n2_ n3_ n4_ n5_ n6_ n7_ n8_ n9_ n10_ n11_ n12_ n13_ n14_ n15_
             clear hb hbox hg
             refine hK.out _ _ ⟨(blk_cell c.out 0).trans rfl, (blk_cell c.out 1).trans rfl, (blk_cell c.out 2).trans rfl, (blk_cell c.out 3).trans rfl, (blk_cell c.out 4).trans rfl, (blk_cell c.out 5).trans rfl, (blk_cell m.out 0).trans rfl, (blk_cell m.out 1).trans rfl⟩ (fun hHeld => ?_)
             clear hK K
             refine norm_ (a' := ?_) ?_ ?_
             rotate_left
             ·show Act.put _ (some 9) _ = _
              simp only [Act.put, List.setIfInBounds_toArray, List.set_cons_zero, List.set_cons_succ, i64_w, i32_w]
              rfl
             exact norm_ (by first | (simp only [putAll, Act.put, List.setIfInBounds_toArray, List.set_cons_zero, List.set_cons_succ]; done) | (simp only [putAll, Act.put, List.setIfInBounds_toArray, List.set_cons_zero, List.set_cons_succ]; rfl)) (hJ3_11_12 (q, u) _ ⟨hHeld, (by (with_reducible repeat (first | apply bN | apply bD | apply bA)); exact c.out), (by (with_reducible repeat (first | apply bN | apply bD | apply bA)); exact m.out), (by (with_reducible repeat (first | apply bN | apply bD | apply bA)); exact y.out), (by (with_reducible repeat (first | apply bN | apply bD | apply bA)); exact C.out), (by (with_reducible repeat (first | apply bN | apply bD | apply bA)); exact A.out), e6.out, d1.out, E.out, c0.out, Z.out, d0.out, J.out, a9.out, b8.out, b4.out, e7.out, d2.out, D.out, b6.out, L.out, b7.out, G.out, b0.out, (by repeat (first | (with_reducible first | exact HB.out | apply zA | apply zN | apply zD | refine zS ?_ b3.out | refine zS ?_ b5.out | refine zS ?_ b9.out | refine zS ?_ d2.out | refine zS ?_ d1.out) | exact HB.out))⟩)
          ·skip
           rintro q w13 ⟨hS_, h0_, h1_, h2_, h3_, h4_, h5_, h6_, h7_, h8_, h9_, h10_, h11_, h12_⟩
           have n0_ : Aside0 (w13.heap[d]? = some (.cells #[.int .i64 P, .int .i64 R, .int .i64 U, .int .i64 V, .int .i64 X, .bool Y] 40 (0, 0))) := ⟨h0_⟩
           have n1_ : Aside0 (w13.heap[s]? = some (.cells #[.int .i64 b1, .int .i64 b2] 93 (0, 0))) := ⟨h1_⟩
           have n2_ : Aside0 (w13.heap[z]? = some (.cells #[.int .i64 0, .int .i64 0] 93 (0, 0))) := ⟨h2_⟩
           have n3_ : Aside0 (w13.heap[q]? = some (.cells #[.int .i64 0, .int .i64 0] 93 (0, 0))) := ⟨h3_⟩
           have n4_ : Aside0 (w.heap.size ≤ q) := ⟨h4_⟩
           have n5_ : Aside0 (w.heap.size ≤ q) := ⟨h5_⟩
           have n6_ : Aside0 (d ≠ q) := ⟨h6_⟩
           have n7_ : Aside0 (q ≠ d) := ⟨h7_⟩
           have n8_ : Aside0 (s ≠ q) := ⟨h8_⟩
           have n9_ : Aside0 (q ≠ s) := ⟨h9_⟩
           have n10_ : Aside0 (z ≠ q) := ⟨h10_⟩
           have n11_ : Aside0 (q ≠ z) := ⟨h11_⟩
           have n12_ : Aside0 (Below w.heap.size w w13) := ⟨h12_⟩
           clear c
           clear m
           clear y
           clear HB
           clear h0_ h1_ h2_ h3_ h4_ h5_ h6_ h7_ h8_ h9_ h10_ h11_ h12_
           have c := n0_
           have m := n1_
           have y := n2_
           have C := n3_
           have e6 := n4_
           have d1 := n5_
           have E := n6_
           have c0 := n7_
           have Z := n8_
           have d0 := n9_
           have J := n10_
           have a9 := n11_
           have HB := n12_
           clear n0_ n1_ n2_ n3_ n4_ n5_ n6_ n7_ n8_ n9_ n10_ n11_ n12_
           have hHeld : w13.cell? ⟨d, 0, none⟩ = some (.int .i64 P) ∧ w13.cell? ⟨d, 1, none⟩ = some (.int .i64 R) ∧ w13.cell? ⟨d, 2, none⟩ = some (.int .i64 U) ∧ w13.cell? ⟨d, 3, none⟩ = some (.int .i64 V) ∧ w13.cell? ⟨d, 4, none⟩ = some (.int .i64 X) ∧ w13.cell? ⟨d, 5, none⟩ = some (.bool Y) ∧ w13.cell? ⟨s, 0, none⟩ = some (.int .i64 b1) ∧ w13.cell? ⟨s, 1, none⟩ = some (.int .i64 b2) := hS_
           refine norm_ (a' := ?_) ?_ ?_
           rotate_left
           ·simp only [putAll, Act.put, List.setIfInBounds_toArray, List.set_cons_zero, List.set_cons_succ]
            rfl
           refine two_ (i := 8) (j := 12) (Ni := some 22) (Nj := some 10) #[true, true, true, true, true, true, true, true, true, true, false, true, false, false, false] #[true, true, true, true, true, true, true, true, false, true, false, true, true, false, false] rfl rfl rfl rfl (two_of HT_.out (by kernel_rfl)) (by decide) (by decide) (fun K hK => ?_) (fun K hK => ?_)
           ·skip
            refine goes_ Try.func121 (by kernel_rfl) rfl #[.agg #[.int .i64 P, .int .i64 R, .int .i64 U, .int .i64 V, .int .i64 X, .bool Y], .agg #[.int .i64 b1, .int .i64 b2], .int .i64 a2] (by rfl) rfl rfl (by (try simp only [List.map_toArray, List.map_cons, List.map_nil]); first | done | rfl) ?_
            with_reducible refine (spec_sdNext.calls k P R U V X Y b1 b2 a2 f4 f5 _ A5.out).mono ?_
            rintro e w14 ⟨rfl, hb⟩
            refine ⟨_, rfl, ?_⟩
            have n0_ := aM (bB (g := d) (o := .cells #[.int .i64 P, .int .i64 R, .int .i64 U, .int .i64 V, .int .i64 X, .bool Y] 40 (0, 0)) (by (with_reducible repeat (first | apply bN | apply bD | apply bA)); exact c.out) hb)
            have n1_ := aM (bB (g := s) (o := .cells #[.int .i64 b1, .int .i64 b2] 93 (0, 0)) (by (with_reducible repeat (first | apply bN | apply bD | apply bA)); exact m.out) hb)
            have n2_ := aM (bB (g := z) (o := .cells #[.int .i64 0, .int .i64 0] 93 (0, 0)) (by (with_reducible repeat (first | apply bN | apply bD | apply bA)); exact y.out) hb)
            have n3_ := aM (bB (g := q) (o := .cells #[.int .i64 0, .int .i64 0] 93 (0, 0)) (by (with_reducible repeat (first | apply bN | apply bD | apply bA)); exact C.out) hb)
            have n4_ := aM (below_step (by repeat (first | (with_reducible first | exact HB.out | apply zA | apply zN | apply zD | refine zS ?_ b3.out | refine zS ?_ b5.out | refine zS ?_ b9.out | refine zS ?_ d1.out) | exact HB.out)) hb)
            clear c
            clear m
            clear y
            clear C
            clear HB
            have c := n0_
            have m := n1_
            have y := n2_
            have C := n3_
            have HB := n4_
            clear n0_ n1_ n2_ n3_ n4_
            (try clear hb)
            (try clear hb2)
            (try clear hk)
            (try clear hi)
            refine hK.out _ _ ⟨(blk_cell c.out 0).trans rfl, (blk_cell c.out 1).trans rfl, (blk_cell c.out 2).trans rfl, (blk_cell c.out 3).trans rfl, (blk_cell c.out 4).trans rfl, (blk_cell c.out 5).trans rfl, (blk_cell m.out 0).trans rfl, (blk_cell m.out 1).trans rfl⟩ (fun hHeld => ?_)
            clear hK K
            refine norm_ (a' := ?_) ?_ ?_
            rotate_left
            ·show Act.put _ (some 22) _ = _
             simp only [Act.put, List.setIfInBounds_toArray, List.set_cons_zero, List.set_cons_succ, i64_w, i32_w]
             rfl
            exact norm_ (by first | (simp only [putAll, Act.put, List.setIfInBounds_toArray, List.set_cons_zero, List.set_cons_succ]; done) | (simp only [putAll, Act.put, List.setIfInBounds_toArray, List.set_cons_zero, List.set_cons_succ]; rfl)) (hJ3_8_11 (q) _ ⟨hHeld, (by (with_reducible repeat (first | apply bN | apply bD | apply bA)); exact c.out), (by (with_reducible repeat (first | apply bN | apply bD | apply bA)); exact m.out), (by (with_reducible repeat (first | apply bN | apply bD | apply bA)); exact y.out), (by (with_reducible repeat (first | apply bN | apply bD | apply bA)); exact C.out), e6.out, d1.out, E.out, c0.out, Z.out, d0.out, J.out, a9.out, (by repeat (first | (with_reducible first | exact HB.out | apply zA | apply zN | apply zD | refine zS ?_ b3.out | refine zS ?_ b5.out | refine zS ?_ b9.out | refine zS ?_ d1.out) | exact HB.out))⟩)
           ·skip
            refine box_step ?hg (N := 10) ?hd (cs := #[.int .i64 0, .int .i64 0]) (t := 93) ?hr ?_; (case hd => rfl); (case hg => rfl); (case hr => first | (go_simp; done) | (go_simp; rfl))
            intro u hg w14 hbox hb
            have n0_ := aM (bB (g := d) (o := .cells #[.int .i64 P, .int .i64 R, .int .i64 U, .int .i64 V, .int .i64 X, .bool Y] 40 (0, 0)) (by (with_reducible repeat (first | apply bN | apply bD | apply bA)); exact c.out) hb)
            have n1_ := aM (bB (g := s) (o := .cells #[.int .i64 b1, .int .i64 b2] 93 (0, 0)) (by (with_reducible repeat (first | apply bN | apply bD | apply bA)); exact m.out) hb)
            have n2_ := aM (bB (g := z) (o := .cells #[.int .i64 0, .int .i64 0] 93 (0, 0)) (by (with_reducible repeat (first | apply bN | apply bD | apply bA)); exact y.out) hb)
            have n3_ := aM (bB (g := q) (o := .cells #[.int .i64 0, .int .i64 0] 93 (0, 0)) (by (with_reducible repeat (first | apply bN | apply bD | apply bA)); exact C.out) hb)
            have n4_ := aM (below_step (by repeat (first | (with_reducible first | exact HB.out | apply zA | apply zN | apply zD | refine zS ?_ b3.out | refine zS ?_ b5.out | refine zS ?_ b9.out | refine zS ?_ d1.out) | exact HB.out)) hb)
            have n5_ := aM (hbox)
            have n6_ := aM ((by rw [hg]; exact (below_size (by repeat (first | (with_reducible first | exact HB.out | apply zA | apply zN | apply zD | refine zS ?_ b3.out | refine zS ?_ b5.out | refine zS ?_ b9.out | refine zS ?_ d1.out) | exact HB.out))) : w.heap.size ≤ u))
            have n7_ := aM ((by rw [hg]; exact (below_size (by repeat (first | (with_reducible first | exact HB.out | apply zA | apply zN | apply zD | refine zS ?_ b3.out | refine zS ?_ b5.out | refine zS ?_ b9.out | refine zS ?_ d1.out) | exact HB.out))) : w.heap.size ≤ u))
            have n8_ := aM ((by rw [hg]; exact Nat.ne_of_lt (blk_lt (g := d) (o := .cells #[.int .i64 P, .int .i64 R, .int .i64 U, .int .i64 V, .int .i64 X, .bool Y] 40 (0, 0)) (by (with_reducible repeat (first | apply bN | apply bD | apply bA)); exact c.out)) : d ≠ u))
            have n9_ := aM ((by rw [hg]; exact Nat.ne_of_gt (blk_lt (g := d) (o := .cells #[.int .i64 P, .int .i64 R, .int .i64 U, .int .i64 V, .int .i64 X, .bool Y] 40 (0, 0)) (by (with_reducible repeat (first | apply bN | apply bD | apply bA)); exact c.out)) : u ≠ d))
            have n10_ := aM ((by rw [hg]; exact Nat.ne_of_lt (blk_lt (g := s) (o := .cells #[.int .i64 b1, .int .i64 b2] 93 (0, 0)) (by (with_reducible repeat (first | apply bN | apply bD | apply bA)); exact m.out)) : s ≠ u))
            have n11_ := aM ((by rw [hg]; exact Nat.ne_of_gt (blk_lt (g := s) (o := .cells #[.int .i64 b1, .int .i64 b2] 93 (0, 0)) (by (with_reducible repeat (first | apply bN | apply bD | apply bA)); exact m.out)) : u ≠ s))
            have n12_ := aM ((by rw [hg]; exact Nat.ne_of_lt (blk_lt (g := z) (o := .cells #[.int .i64 0, .int .i64 0] 93 (0, 0)) (by (with_reducible repeat (first | apply bN | apply bD | apply bA)); exact y.out)) : z ≠ u))
            have n13_ := aM ((by rw [hg]; exact Nat.ne_of_gt (blk_lt (g := z) (o := .cells #[.int .i64 0, .int .i64 0] 93 (0, 0)) (by (with_reducible repeat (first | apply bN | apply bD | apply bA)); exact y.out)) : u ≠ z))
            have n14_ := aM ((by rw [hg]; exact Nat.ne_of_lt (blk_lt (g := q) (o := .cells #[.int .i64 0, .int .i64 0] 93 (0, 0)) (by (with_reducible repeat (first | apply bN | apply bD | apply bA)); exact C.out)) : q ≠ u))
            have n15_ := aM ((by rw [hg]; exact Nat.ne_of_gt (blk_lt (g := q) (o := .cells #[.int .i64 0, .int .i64 0] 93 (0, 0)) (by (with_reducible repeat (first | apply bN | apply bD | apply bA)); exact C.out)) : u ≠ q))
            clear c
            clear m
            clear y
            clear C
            clear HB
            have c := n0_
            have m := n1_
            have y := n2_
            have C := n3_
            have HB := n4_
            have A := n5_
            have e7 := n6_
            have d2 := n7_
            have D := n8_
            have b6 := n9_
            have L := n10_
            have b7 := n11_
            have G := n12_
            have b0 := n13_
            have b4 := n14_
            have b8 := n15_
            clear n0_ n1_ n2_ n3_ n4_ n5_ n6_ n7_ n8_ n9_ n10_ n11_ n12_ n13_ n14_ n15_
            clear hb hbox hg
            refine hK.out _ _ ⟨(blk_cell c.out 0).trans rfl, (blk_cell c.out 1).trans rfl, (blk_cell c.out 2).trans rfl, (blk_cell c.out 3).trans rfl, (blk_cell c.out 4).trans rfl, (blk_cell c.out 5).trans rfl, (blk_cell m.out 0).trans rfl, (blk_cell m.out 1).trans rfl⟩ (fun hHeld => ?_)
            clear hK K
            refine norm_ (a' := ?_) ?_ ?_
            rotate_left
            ·show Act.put _ (some 10) _ = _
             simp only [Act.put, List.setIfInBounds_toArray, List.set_cons_zero, List.set_cons_succ, i64_w, i32_w]
             rfl
            exact norm_ (by first | (simp only [putAll, Act.put, List.setIfInBounds_toArray, List.set_cons_zero, List.set_cons_succ]; done) | (simp only [putAll, Act.put, List.setIfInBounds_toArray, List.set_cons_zero, List.set_cons_succ]; rfl)) (hJ3_11_12 (q, u) _ ⟨hHeld, (by (with_reducible repeat (first | apply bN | apply bD | apply bA)); exact c.out), (by (with_reducible repeat (first | apply bN | apply bD | apply bA)); exact m.out), (by (with_reducible repeat (first | apply bN | apply bD | apply bA)); exact y.out), (by (with_reducible repeat (first | apply bN | apply bD | apply bA)); exact C.out), (by (with_reducible repeat (first | apply bN | apply bD | apply bA)); exact A.out), e6.out, d1.out, E.out, c0.out, Z.out, d0.out, J.out, a9.out, b8.out, b4.out, e7.out, d2.out, D.out, b6.out, L.out, b7.out, G.out, b0.out, (by repeat (first | (with_reducible first | exact HB.out | apply zA | apply zN | apply zD | refine zS ?_ b3.out | refine zS ?_ b5.out | refine zS ?_ b9.out | refine zS ?_ d1.out | refine zS ?_ d2.out) | exact HB.out))⟩)
         ·skip
          rintro _ w13 ⟨hS_, h0_, h1_, h2_, h3_⟩
          have n0_ : Aside0 (w13.heap[d]? = some (.cells #[.int .i64 P, .int .i64 R, .int .i64 U, .int .i64 V, .int .i64 X, .bool Y] 40 (0, 0))) := ⟨h0_⟩
          have n1_ : Aside0 (w13.heap[s]? = some (.cells #[.int .i64 b1, .int .i64 b2] 93 (0, 0))) := ⟨h1_⟩
          have n2_ : Aside0 (w13.heap[z]? = some (.cells #[.int .i64 0, .int .i64 0] 93 (0, 0))) := ⟨h2_⟩
          have n3_ : Aside0 (Below w.heap.size w w13) := ⟨h3_⟩
          clear c
          clear m
          clear y
          clear HB
          clear h0_ h1_ h2_ h3_
          have c := n0_
          have m := n1_
          have y := n2_
          have HB := n3_
          clear n0_ n1_ n2_ n3_
          have hHeld : w13.cell? ⟨d, 0, none⟩ = some (.int .i64 P) ∧ w13.cell? ⟨d, 1, none⟩ = some (.int .i64 R) ∧ w13.cell? ⟨d, 2, none⟩ = some (.int .i64 U) ∧ w13.cell? ⟨d, 3, none⟩ = some (.int .i64 V) ∧ w13.cell? ⟨d, 4, none⟩ = some (.int .i64 X) ∧ w13.cell? ⟨d, 5, none⟩ = some (.bool Y) ∧ w13.cell? ⟨s, 0, none⟩ = some (.int .i64 b1) ∧ w13.cell? ⟨s, 1, none⟩ = some (.int .i64 b2) := hS_
          refine norm_ (a' := ?_) ?_ ?_
          rotate_left
          ·simp only [putAll, Act.put, List.setIfInBounds_toArray, List.set_cons_zero, List.set_cons_succ]
           rfl
          refine three_ (i := 10) (j := 11) (k := 12) (Ni := some 24) (Nj := some 9) (Nk := some 10) #[true, true, true, true, true, true, true, true, true, true, true, false, false, false, false] #[true, true, true, true, true, true, true, true, true, true, false, true, false, false, false] #[true, true, true, true, true, true, true, true, true, true, false, false, true, false, false] rfl rfl rfl rfl rfl rfl (three_of HT_.out (by kernel_rfl)) (by decide) (by decide) (by decide) (fun K hK => ?_) (fun K hK => ?_) (fun K hK => ?_)
          ·skip
           refine goes_ Try.func121 (by kernel_rfl) rfl #[.agg #[.int .i64 P, .int .i64 R, .int .i64 U, .int .i64 V, .int .i64 X, .bool Y], .agg #[.int .i64 f4, .int .i64 f5], .int .i64 a2] (by rfl) rfl rfl (by (try simp only [List.map_toArray, List.map_cons, List.map_nil]); first | done | rfl) ?_
           with_reducible refine (spec_sdNext.calls k P R U V X Y f4 f5 a2 g1 g2 _ A6.out).mono ?_
           rintro e w14 ⟨rfl, hb⟩
           refine ⟨_, rfl, ?_⟩
           have n0_ := aM (bB (g := d) (o := .cells #[.int .i64 P, .int .i64 R, .int .i64 U, .int .i64 V, .int .i64 X, .bool Y] 40 (0, 0)) (by (with_reducible repeat (first | apply bN | apply bD | apply bA)); exact c.out) hb)
           have n1_ := aM (bB (g := s) (o := .cells #[.int .i64 b1, .int .i64 b2] 93 (0, 0)) (by (with_reducible repeat (first | apply bN | apply bD | apply bA)); exact m.out) hb)
           have n2_ := aM (bB (g := z) (o := .cells #[.int .i64 0, .int .i64 0] 93 (0, 0)) (by (with_reducible repeat (first | apply bN | apply bD | apply bA)); exact y.out) hb)
           have n3_ := aM (below_step (by repeat (first | (with_reducible first | exact HB.out | apply zA | apply zN | apply zD | refine zS ?_ b3.out | refine zS ?_ b5.out | refine zS ?_ b9.out) | exact HB.out)) hb)
           clear c
           clear m
           clear y
           clear HB
           have c := n0_
           have m := n1_
           have y := n2_
           have HB := n3_
           clear n0_ n1_ n2_ n3_
           (try clear hb)
           (try clear hb2)
           (try clear hk)
           (try clear hi)
           refine hK.out _ _ ⟨(blk_cell c.out 0).trans rfl, (blk_cell c.out 1).trans rfl, (blk_cell c.out 2).trans rfl, (blk_cell c.out 3).trans rfl, (blk_cell c.out 4).trans rfl, (blk_cell c.out 5).trans rfl, (blk_cell m.out 0).trans rfl, (blk_cell m.out 1).trans rfl⟩ (fun hHeld => ?_)
           clear hK K
           refine norm_ (a' := ?_) ?_ ?_
           rotate_left
           ·show Act.put _ (some 24) _ = _
            simp only [Act.put, List.setIfInBounds_toArray, List.set_cons_zero, List.set_cons_succ, i64_w, i32_w]
            rfl
           exact norm_ (by first | (simp only [putAll, Act.put, List.setIfInBounds_toArray, List.set_cons_zero, List.set_cons_succ]; done) | (simp only [putAll, Act.put, List.setIfInBounds_toArray, List.set_cons_zero, List.set_cons_succ]; rfl)) (hJ3_8_10 () _ ⟨hHeld, (by (with_reducible repeat (first | apply bN | apply bD | apply bA)); exact c.out), (by (with_reducible repeat (first | apply bN | apply bD | apply bA)); exact m.out), (by (with_reducible repeat (first | apply bN | apply bD | apply bA)); exact y.out), (by repeat (first | (with_reducible first | exact HB.out | apply zA | apply zN | apply zD | refine zS ?_ b3.out | refine zS ?_ b5.out | refine zS ?_ b9.out) | exact HB.out))⟩)
          ·skip
           refine box_step ?hg (N := 9) ?hd (cs := #[.int .i64 0, .int .i64 0]) (t := 93) ?hr ?_; (case hd => rfl); (case hg => rfl); (case hr => first | (go_simp; done) | (go_simp; rfl))
           intro q hg w14 hbox hb
           have n0_ := aM (bB (g := d) (o := .cells #[.int .i64 P, .int .i64 R, .int .i64 U, .int .i64 V, .int .i64 X, .bool Y] 40 (0, 0)) (by (with_reducible repeat (first | apply bN | apply bD | apply bA)); exact c.out) hb)
           have n1_ := aM (bB (g := s) (o := .cells #[.int .i64 b1, .int .i64 b2] 93 (0, 0)) (by (with_reducible repeat (first | apply bN | apply bD | apply bA)); exact m.out) hb)
           have n2_ := aM (bB (g := z) (o := .cells #[.int .i64 0, .int .i64 0] 93 (0, 0)) (by (with_reducible repeat (first | apply bN | apply bD | apply bA)); exact y.out) hb)
           have n3_ := aM (below_step (by repeat (first | (with_reducible first | exact HB.out | apply zA | apply zN | apply zD | refine zS ?_ b3.out | refine zS ?_ b5.out | refine zS ?_ b9.out) | exact HB.out)) hb)
           have n4_ := aM (hbox)
           have n5_ := aM ((by rw [hg]; exact (below_size (by repeat (first | (with_reducible first | exact HB.out | apply zA | apply zN | apply zD | refine zS ?_ b3.out | refine zS ?_ b5.out | refine zS ?_ b9.out) | exact HB.out))) : w.heap.size ≤ q))
           have n6_ := aM ((by rw [hg]; exact (below_size (by repeat (first | (with_reducible first | exact HB.out | apply zA | apply zN | apply zD | refine zS ?_ b3.out | refine zS ?_ b5.out | refine zS ?_ b9.out) | exact HB.out))) : w.heap.size ≤ q))
           have n7_ := aM ((by rw [hg]; exact Nat.ne_of_lt (blk_lt (g := d) (o := .cells #[.int .i64 P, .int .i64 R, .int .i64 U, .int .i64 V, .int .i64 X, .bool Y] 40 (0, 0)) (by (with_reducible repeat (first | apply bN | apply bD | apply bA)); exact c.out)) : d ≠ q))
           have n8_ := aM ((by rw [hg]; exact Nat.ne_of_gt (blk_lt (g := d) (o := .cells #[.int .i64 P, .int .i64 R, .int .i64 U, .int .i64 V, .int .i64 X, .bool Y] 40 (0, 0)) (by (with_reducible repeat (first | apply bN | apply bD | apply bA)); exact c.out)) : q ≠ d))
           have n9_ := aM ((by rw [hg]; exact Nat.ne_of_lt (blk_lt (g := s) (o := .cells #[.int .i64 b1, .int .i64 b2] 93 (0, 0)) (by (with_reducible repeat (first | apply bN | apply bD | apply bA)); exact m.out)) : s ≠ q))
           have n10_ := aM ((by rw [hg]; exact Nat.ne_of_gt (blk_lt (g := s) (o := .cells #[.int .i64 b1, .int .i64 b2] 93 (0, 0)) (by (with_reducible repeat (first | apply bN | apply bD | apply bA)); exact m.out)) : q ≠ s))
           have n11_ := aM ((by rw [hg]; exact Nat.ne_of_lt (blk_lt (g := z) (o := .cells #[.int .i64 0, .int .i64 0] 93 (0, 0)) (by (with_reducible repeat (first | apply bN | apply bD | apply bA)); exact y.out)) : z ≠ q))
           have n12_ := aM ((by rw [hg]; exact Nat.ne_of_gt (blk_lt (g := z) (o := .cells #[.int .i64 0, .int .i64 0] 93 (0, 0)) (by (with_reducible repeat (first | apply bN | apply bD | apply bA)); exact y.out)) : q ≠ z))
           clear c
           clear m
           clear y
           clear HB
           have c := n0_
           have m := n1_
           have y := n2_
           have HB := n3_
           have C := n4_
           have e6 := n5_
           have d1 := n6_
           have E := n7_
           have c0 := n8_
           have Z := n9_
           have d0 := n10_
           have J := n11_
           have a9 := n12_
           clear n0_ n1_ n2_ n3_ n4_ n5_ n6_ n7_ n8_ n9_ n10_ n11_ n12_
           clear hb hbox hg
           refine hK.out _ _ ⟨(blk_cell c.out 0).trans rfl, (blk_cell c.out 1).trans rfl, (blk_cell c.out 2).trans rfl, (blk_cell c.out 3).trans rfl, (blk_cell c.out 4).trans rfl, (blk_cell c.out 5).trans rfl, (blk_cell m.out 0).trans rfl, (blk_cell m.out 1).trans rfl⟩ (fun hHeld => ?_)
           clear hK K
           refine norm_ (a' := ?_) ?_ ?_
           rotate_left
           ·show Act.put _ (some 9) _ = _
            simp only [Act.put, List.setIfInBounds_toArray, List.set_cons_zero, List.set_cons_succ, i64_w, i32_w]
            rfl
           exact norm_ (by first | (simp only [putAll, Act.put, List.setIfInBounds_toArray, List.set_cons_zero, List.set_cons_succ]; done) | (simp only [putAll, Act.put, List.setIfInBounds_toArray, List.set_cons_zero, List.set_cons_succ]; rfl)) (hJ3_8_11 (q) _ ⟨hHeld, (by (with_reducible repeat (first | apply bN | apply bD | apply bA)); exact c.out), (by (with_reducible repeat (first | apply bN | apply bD | apply bA)); exact m.out), (by (with_reducible repeat (first | apply bN | apply bD | apply bA)); exact y.out), (by (with_reducible repeat (first | apply bN | apply bD | apply bA)); exact C.out), e6.out, d1.out, E.out, c0.out, Z.out, d0.out, J.out, a9.out, (by repeat (first | (with_reducible first | exact HB.out | apply zA | apply zN | apply zD | refine zS ?_ b3.out | refine zS ?_ b5.out | refine zS ?_ b9.out | refine zS ?_ d1.out) | exact HB.out))⟩)
          ·skip
           refine box_step ?hg (N := 10) ?hd (cs := #[.int .i64 0, .int .i64 0]) (t := 93) ?hr ?_; (case hd => rfl); (case hg => rfl); (case hr => first | (go_simp; done) | (go_simp; rfl))
           intro u hg w14 hbox hb
           have n0_ := aM (bB (g := d) (o := .cells #[.int .i64 P, .int .i64 R, .int .i64 U, .int .i64 V, .int .i64 X, .bool Y] 40 (0, 0)) (by (with_reducible repeat (first | apply bN | apply bD | apply bA)); exact c.out) hb)
           have n1_ := aM (bB (g := s) (o := .cells #[.int .i64 b1, .int .i64 b2] 93 (0, 0)) (by (with_reducible repeat (first | apply bN | apply bD | apply bA)); exact m.out) hb)
           have n2_ := aM (bB (g := z) (o := .cells #[.int .i64 0, .int .i64 0] 93 (0, 0)) (by (with_reducible repeat (first | apply bN | apply bD | apply bA)); exact y.out) hb)
           have n3_ := aM (below_step (by repeat (first | (with_reducible first | exact HB.out | apply zA | apply zN | apply zD | refine zS ?_ b3.out | refine zS ?_ b5.out | refine zS ?_ b9.out) | exact HB.out)) hb)
           have n4_ := aM (hbox)
           have n5_ := aM ((by rw [hg]; exact (below_size (by repeat (first | (with_reducible first | exact HB.out | apply zA | apply zN | apply zD | refine zS ?_ b3.out | refine zS ?_ b5.out | refine zS ?_ b9.out) | exact HB.out))) : w.heap.size ≤ u))
           have n6_ := aM ((by rw [hg]; exact (below_size (by repeat (first | (with_reducible first | exact HB.out | apply zA | apply zN | apply zD | refine zS ?_ b3.out | refine zS ?_ b5.out | refine zS ?_ b9.out) | exact HB.out))) : w.heap.size ≤ u))
           have n7_ := aM ((by rw [hg]; exact Nat.ne_of_lt (blk_lt (g := d) (o := .cells #[.int .i64 P, .int .i64 R, .int .i64 U, .int .i64 V, .int .i64 X, .bool Y] 40 (0, 0)) (by (with_reducible repeat (first | apply bN | apply bD | apply bA)); exact c.out)) : d ≠ u))
           have n8_ := aM ((by rw [hg]; exact Nat.ne_of_gt (blk_lt (g := d) (o := .cells #[.int .i64 P, .int .i64 R, .int .i64 U, .int .i64 V, .int .i64 X, .bool Y] 40 (0, 0)) (by (with_reducible repeat (first | apply bN | apply bD | apply bA)); exact c.out)) : u ≠ d))
           have n9_ := aM ((by rw [hg]; exact Nat.ne_of_lt (blk_lt (g := s) (o := .cells #[.int .i64 b1, .int .i64 b2] 93 (0, 0)) (by (with_reducible repeat (first | apply bN | apply bD | apply bA)); exact m.out)) : s ≠ u))
           have n10_ := aM ((by rw [hg]; exact Nat.ne_of_gt (blk_lt (g := s) (o := .cells #[.int .i64 b1, .int .i64 b2] 93 (0, 0)) (by (with_reducible repeat (first | apply bN | apply bD | apply bA)); exact m.out)) : u ≠ s))
           have n11_ := aM ((by rw [hg]; exact Nat.ne_of_lt (blk_lt (g := z) (o := .cells #[.int .i64 0, .int .i64 0] 93 (0, 0)) (by (with_reducible repeat (first | apply bN | apply bD | apply bA)); exact y.out)) : z ≠ u))
           have n12_ := aM ((by rw [hg]; exact Nat.ne_of_gt (blk_lt (g := z) (o := .cells #[.int .i64 0, .int .i64 0] 93 (0, 0)) (by (with_reducible repeat (first | apply bN | apply bD | apply bA)); exact y.out)) : u ≠ z))
           clear c
           clear m
           clear y
           clear HB
           have c := n0_
           have m := n1_
           have y := n2_
           have HB := n3_
           have A := n4_
           have e7 := n5_
           have d2 := n6_
           have D := n7_
           have b6 := n8_
           have L := n9_
           have b7 := n10_
           have G := n11_
           have b0 := n12_
           clear n0_ n1_ n2_ n3_ n4_ n5_ n6_ n7_ n8_ n9_ n10_ n11_ n12_
           clear hb hbox hg
           refine hK.out _ _ ⟨(blk_cell c.out 0).trans rfl, (blk_cell c.out 1).trans rfl, (blk_cell c.out 2).trans rfl, (blk_cell c.out 3).trans rfl, (blk_cell c.out 4).trans rfl, (blk_cell c.out 5).trans rfl, (blk_cell m.out 0).trans rfl, (blk_cell m.out 1).trans rfl⟩ (fun hHeld => ?_)
           clear hK K
           refine norm_ (a' := ?_) ?_ ?_
           rotate_left
           ·show Act.put _ (some 10) _ = _
            simp only [Act.put, List.setIfInBounds_toArray, List.set_cons_zero, List.set_cons_succ, i64_w, i32_w]
            rfl
           exact norm_ (by first | (simp only [putAll, Act.put, List.setIfInBounds_toArray, List.set_cons_zero, List.set_cons_succ]; done) | (simp only [putAll, Act.put, List.setIfInBounds_toArray, List.set_cons_zero, List.set_cons_succ]; rfl)) (hJ3_8_12 (u) _ ⟨hHeld, (by (with_reducible repeat (first | apply bN | apply bD | apply bA)); exact c.out), (by (with_reducible repeat (first | apply bN | apply bD | apply bA)); exact m.out), (by (with_reducible repeat (first | apply bN | apply bD | apply bA)); exact y.out), (by (with_reducible repeat (first | apply bN | apply bD | apply bA)); exact A.out), e7.out, d2.out, D.out, b6.out, L.out, b7.out, G.out, b0.out, (by repeat (first | (with_reducible first | exact HB.out | apply zA | apply zN | apply zD | refine zS ?_ b3.out | refine zS ?_ b5.out | refine zS ?_ b9.out | refine zS ?_ d2.out) | exact HB.out))⟩)
        ·skip
         rintro ⟨q, u⟩ w14 ⟨hS_, h0_, h1_, h2_, h3_, h4_, h5_, h6_, h7_, h8_, h9_, h10_, h11_, h12_, h13_, h14_, h15_, h16_, h17_, h18_, h19_, h20_, h21_, h22_, h23_⟩
         have n0_ : Aside0 (w14.heap[d]? = some (.cells #[.int .i64 P, .int .i64 R, .int .i64 U, .int .i64 V, .int .i64 X, .bool Y] 40 (0, 0))) := ⟨h0_⟩
         have n1_ : Aside0 (w14.heap[s]? = some (.cells #[.int .i64 b1, .int .i64 b2] 93 (0, 0))) := ⟨h1_⟩
         have n2_ : Aside0 (w14.heap[z]? = some (.cells #[.int .i64 0, .int .i64 0] 93 (0, 0))) := ⟨h2_⟩
         have n3_ : Aside0 (w14.heap[q]? = some (.cells #[.int .i64 0, .int .i64 0] 93 (0, 0))) := ⟨h3_⟩
         have n4_ : Aside0 (w14.heap[u]? = some (.cells #[.int .i64 0, .int .i64 0] 93 (0, 0))) := ⟨h4_⟩
         have n5_ : Aside0 (w.heap.size ≤ q) := ⟨h5_⟩
         have n6_ : Aside0 (w.heap.size ≤ q) := ⟨h6_⟩
         have n7_ : Aside0 (d ≠ q) := ⟨h7_⟩
         have n8_ : Aside0 (q ≠ d) := ⟨h8_⟩
         have n9_ : Aside0 (s ≠ q) := ⟨h9_⟩
         have n10_ : Aside0 (q ≠ s) := ⟨h10_⟩
         have n11_ : Aside0 (z ≠ q) := ⟨h11_⟩
         have n12_ : Aside0 (q ≠ z) := ⟨h12_⟩
         have n13_ : Aside0 (u ≠ q) := ⟨h13_⟩
         have n14_ : Aside0 (q ≠ u) := ⟨h14_⟩
         have n15_ : Aside0 (w.heap.size ≤ u) := ⟨h15_⟩
         have n16_ : Aside0 (w.heap.size ≤ u) := ⟨h16_⟩
         have n17_ : Aside0 (d ≠ u) := ⟨h17_⟩
         have n18_ : Aside0 (u ≠ d) := ⟨h18_⟩
         have n19_ : Aside0 (s ≠ u) := ⟨h19_⟩
         have n20_ : Aside0 (u ≠ s) := ⟨h20_⟩
         have n21_ : Aside0 (z ≠ u) := ⟨h21_⟩
         have n22_ : Aside0 (u ≠ z) := ⟨h22_⟩
         have n23_ : Aside0 (Below w.heap.size w w14) := ⟨h23_⟩
         clear c
         clear m
         clear y
         clear HB
         clear h0_ h1_ h2_ h3_ h4_ h5_ h6_ h7_ h8_ h9_ h10_ h11_ h12_ h13_ h14_ h15_ h16_ h17_ h18_ h19_ h20_ h21_ h22_ h23_
         have c := n0_
         have m := n1_
         have y := n2_
         have C := n3_
         have A := n4_
         have e6 := n5_
         have d1 := n6_
         have E := n7_
         have c0 := n8_
         have Z := n9_
         have d0 := n10_
         have J := n11_
         have a9 := n12_
         have b8 := n13_
         have b4 := n14_
         have e7 := n15_
         have d2 := n16_
         have D := n17_
         have b6 := n18_
         have L := n19_
         have b7 := n20_
         have G := n21_
         have b0 := n22_
         have HB := n23_
         clear n0_ n1_ n2_ n3_ n4_ n5_ n6_ n7_ n8_ n9_ n10_ n11_ n12_ n13_ n14_ n15_ n16_ n17_ n18_ n19_ n20_ n21_ n22_ n23_
         have hHeld : w14.cell? ⟨d, 0, none⟩ = some (.int .i64 P) ∧ w14.cell? ⟨d, 1, none⟩ = some (.int .i64 R) ∧ w14.cell? ⟨d, 2, none⟩ = some (.int .i64 U) ∧ w14.cell? ⟨d, 3, none⟩ = some (.int .i64 V) ∧ w14.cell? ⟨d, 4, none⟩ = some (.int .i64 X) ∧ w14.cell? ⟨d, 5, none⟩ = some (.bool Y) ∧ w14.cell? ⟨s, 0, none⟩ = some (.int .i64 b1) ∧ w14.cell? ⟨s, 1, none⟩ = some (.int .i64 b2) := hS_
         refine norm_ (a' := ?_) ?_ ?_
         rotate_left
         ·simp only [putAll, Act.put, List.setIfInBounds_toArray, List.set_cons_zero, List.set_cons_succ]
          rfl
         refine one_ (i := 8) (N := some 22) #[true, true, true, true, true, true, true, true, true, true, false, true, true, false, false] rfl rfl (one_of HT_.out (by kernel_rfl)) (by decide) (fun K hK => ?_)
         refine goes_ Try.func121 (by kernel_rfl) rfl #[.agg #[.int .i64 P, .int .i64 R, .int .i64 U, .int .i64 V, .int .i64 X, .bool Y], .agg #[.int .i64 b1, .int .i64 b2], .int .i64 a2] (by rfl) rfl rfl (by (try simp only [List.map_toArray, List.map_cons, List.map_nil]); first | done | rfl) ?_
         with_reducible refine (spec_sdNext.calls k P R U V X Y b1 b2 a2 f4 f5 _ A5.out).mono ?_
         rintro e w15 ⟨rfl, hb⟩
         refine ⟨_, rfl, ?_⟩
         have n0_ := aM (bB (g := d) (o := .cells #[.int .i64 P, .int .i64 R, .int .i64 U, .int .i64 V, .int .i64 X, .bool Y] 40 (0, 0)) (by (with_reducible repeat (first | apply bN | apply bD | apply bA)); exact c.out) hb)
         have n1_ := aM (bB (g := s) (o := .cells #[.int .i64 b1, .int .i64 b2] 93 (0, 0)) (by (with_reducible repeat (first | apply bN | apply bD | apply bA)); exact m.out) hb)
         have n2_ := aM (bB (g := z) (o := .cells #[.int .i64 0, .int .i64 0] 93 (0, 0)) (by (with_reducible repeat (first | apply bN | apply bD | apply bA)); exact y.out) hb)
         have n3_ := aM (bB (g := q) (o := .cells #[.int .i64 0, .int .i64 0] 93 (0, 0)) (by (with_reducible repeat (first | apply bN | apply bD | apply bA)); exact C.out) hb)
         have n4_ := aM (bB (g := u) (o := .cells #[.int .i64 0, .int .i64 0] 93 (0, 0)) (by (with_reducible repeat (first | apply bN | apply bD | apply bA)); exact A.out) hb)
         have n5_ := aM (below_step (by repeat (first | (with_reducible first | exact HB.out | apply zA | apply zN | apply zD | refine zS ?_ b3.out | refine zS ?_ b5.out | refine zS ?_ b9.out | refine zS ?_ d1.out | refine zS ?_ d2.out) | exact HB.out)) hb)
         clear c
         clear m
         clear y
         clear C
         clear A
         clear HB
         have c := n0_
         have m := n1_
         have y := n2_
         have C := n3_
         have A := n4_
         have HB := n5_
         clear n0_ n1_ n2_ n3_ n4_ n5_
         (try clear hb)
         (try clear hb2)
         (try clear hk)
         (try clear hi)
         refine hK.out _ _ ⟨(blk_cell c.out 0).trans rfl, (blk_cell c.out 1).trans rfl, (blk_cell c.out 2).trans rfl, (blk_cell c.out 3).trans rfl, (blk_cell c.out 4).trans rfl, (blk_cell c.out 5).trans rfl, (blk_cell m.out 0).trans rfl, (blk_cell m.out 1).trans rfl⟩ (fun hHeld => ?_)
         clear hK K
         refine norm_ (a' := ?_) ?_ ?_
         rotate_left
         ·show Act.put _ (some 22) _ = _
          simp only [Act.put, List.setIfInBounds_toArray, List.set_cons_zero, List.set_cons_succ, i64_w, i32_w]
          rfl
         exact norm_ (by first | (simp only [putAll, Act.put, List.setIfInBounds_toArray, List.set_cons_zero, List.set_cons_succ]; done) | (simp only [putAll, Act.put, List.setIfInBounds_toArray, List.set_cons_zero, List.set_cons_succ]; rfl)) (hJ3_8_11_12 (q, u) _ ⟨hHeld, (by (with_reducible repeat (first | apply bN | apply bD | apply bA)); exact c.out), (by (with_reducible repeat (first | apply bN | apply bD | apply bA)); exact m.out), (by (with_reducible repeat (first | apply bN | apply bD | apply bA)); exact y.out), (by (with_reducible repeat (first | apply bN | apply bD | apply bA)); exact C.out), (by (with_reducible repeat (first | apply bN | apply bD | apply bA)); exact A.out), e6.out, d1.out, E.out, c0.out, Z.out, d0.out, J.out, a9.out, b8.out, b4.out, e7.out, d2.out, D.out, b6.out, L.out, b7.out, G.out, b0.out, (by repeat (first | (with_reducible first | exact HB.out | apply zA | apply zN | apply zD | refine zS ?_ b3.out | refine zS ?_ b5.out | refine zS ?_ b9.out | refine zS ?_ d1.out | refine zS ?_ d2.out) | exact HB.out))⟩)
       ·skip
        rintro u w14 ⟨hS_, h0_, h1_, h2_, h3_, h4_, h5_, h6_, h7_, h8_, h9_, h10_, h11_, h12_⟩
        have n0_ : Aside0 (w14.heap[d]? = some (.cells #[.int .i64 P, .int .i64 R, .int .i64 U, .int .i64 V, .int .i64 X, .bool Y] 40 (0, 0))) := ⟨h0_⟩
        have n1_ : Aside0 (w14.heap[s]? = some (.cells #[.int .i64 b1, .int .i64 b2] 93 (0, 0))) := ⟨h1_⟩
        have n2_ : Aside0 (w14.heap[z]? = some (.cells #[.int .i64 0, .int .i64 0] 93 (0, 0))) := ⟨h2_⟩
        have n3_ : Aside0 (w14.heap[u]? = some (.cells #[.int .i64 0, .int .i64 0] 93 (0, 0))) := ⟨h3_⟩
        have n4_ : Aside0 (w.heap.size ≤ u) := ⟨h4_⟩
        have n5_ : Aside0 (w.heap.size ≤ u) := ⟨h5_⟩
        have n6_ : Aside0 (d ≠ u) := ⟨h6_⟩
        have n7_ : Aside0 (u ≠ d) := ⟨h7_⟩
        have n8_ : Aside0 (s ≠ u) := ⟨h8_⟩
        have n9_ : Aside0 (u ≠ s) := ⟨h9_⟩
        have n10_ : Aside0 (z ≠ u) := ⟨h10_⟩
        have n11_ : Aside0 (u ≠ z) := ⟨h11_⟩
        have n12_ : Aside0 (Below w.heap.size w w14) := ⟨h12_⟩
        clear c
        clear m
        clear y
        clear HB
        clear h0_ h1_ h2_ h3_ h4_ h5_ h6_ h7_ h8_ h9_ h10_ h11_ h12_
        have c := n0_
        have m := n1_
        have y := n2_
        have A := n3_
        have e7 := n4_
        have d2 := n5_
        have D := n6_
        have b6 := n7_
        have L := n8_
        have b7 := n9_
        have G := n10_
        have b0 := n11_
        have HB := n12_
        clear n0_ n1_ n2_ n3_ n4_ n5_ n6_ n7_ n8_ n9_ n10_ n11_ n12_
        have hHeld : w14.cell? ⟨d, 0, none⟩ = some (.int .i64 P) ∧ w14.cell? ⟨d, 1, none⟩ = some (.int .i64 R) ∧ w14.cell? ⟨d, 2, none⟩ = some (.int .i64 U) ∧ w14.cell? ⟨d, 3, none⟩ = some (.int .i64 V) ∧ w14.cell? ⟨d, 4, none⟩ = some (.int .i64 X) ∧ w14.cell? ⟨d, 5, none⟩ = some (.bool Y) ∧ w14.cell? ⟨s, 0, none⟩ = some (.int .i64 b1) ∧ w14.cell? ⟨s, 1, none⟩ = some (.int .i64 b2) := hS_
        refine norm_ (a' := ?_) ?_ ?_
        rotate_left
        ·simp only [putAll, Act.put, List.setIfInBounds_toArray, List.set_cons_zero, List.set_cons_succ]
         rfl
        refine two_ (i := 10) (j := 11) (Ni := some 24) (Nj := some 9) #[true, true, true, true, true, true, true, true, true, true, true, false, true, false, false] #[true, true, true, true, true, true, true, true, true, true, false, true, true, false, false] rfl rfl rfl rfl (two_of HT_.out (by kernel_rfl)) (by decide) (by decide) (fun K hK => ?_) (fun K hK => ?_)
        ·skip
         refine goes_ Try.func121 (by kernel_rfl) rfl #[.agg #[.int .i64 P, .int .i64 R, .int .i64 U, .int .i64 V, .int .i64 X, .bool Y], .agg #[.int .i64 f4, .int .i64 f5], .int .i64 a2] (by rfl) rfl rfl (by (try simp only [List.map_toArray, List.map_cons, List.map_nil]); first | done | rfl) ?_
         with_reducible refine (spec_sdNext.calls k P R U V X Y f4 f5 a2 g1 g2 _ A6.out).mono ?_
         rintro e w15 ⟨rfl, hb⟩
         refine ⟨_, rfl, ?_⟩
         have n0_ := aM (bB (g := d) (o := .cells #[.int .i64 P, .int .i64 R, .int .i64 U, .int .i64 V, .int .i64 X, .bool Y] 40 (0, 0)) (by (with_reducible repeat (first | apply bN | apply bD | apply bA)); exact c.out) hb)
         have n1_ := aM (bB (g := s) (o := .cells #[.int .i64 b1, .int .i64 b2] 93 (0, 0)) (by (with_reducible repeat (first | apply bN | apply bD | apply bA)); exact m.out) hb)
         have n2_ := aM (bB (g := z) (o := .cells #[.int .i64 0, .int .i64 0] 93 (0, 0)) (by (with_reducible repeat (first | apply bN | apply bD | apply bA)); exact y.out) hb)
         have n3_ := aM (bB (g := u) (o := .cells #[.int .i64 0, .int .i64 0] 93 (0, 0)) (by (with_reducible repeat (first | apply bN | apply bD | apply bA)); exact A.out) hb)
         have n4_ := aM (below_step (by repeat (first | (with_reducible first | exact HB.out | apply zA | apply zN | apply zD | refine zS ?_ b3.out | refine zS ?_ b5.out | refine zS ?_ b9.out | refine zS ?_ d2.out) | exact HB.out)) hb)
         clear c
         clear m
         clear y
         clear A
         clear HB
         have c := n0_
         have m := n1_
         have y := n2_
         have A := n3_
         have HB := n4_
         clear n0_ n1_ n2_ n3_ n4_
         (try clear hb)
         (try clear hb2)
         (try clear hk)
         (try clear hi)
         refine hK.out _ _ ⟨(blk_cell c.out 0).trans rfl, (blk_cell c.out 1).trans rfl, (blk_cell c.out 2).trans rfl, (blk_cell c.out 3).trans rfl, (blk_cell c.out 4).trans rfl, (blk_cell c.out 5).trans rfl, (blk_cell m.out 0).trans rfl, (blk_cell m.out 1).trans rfl⟩ (fun hHeld => ?_)
         clear hK K
         refine norm_ (a' := ?_) ?_ ?_
         rotate_left
         ·show Act.put _ (some 24) _ = _
          simp only [Act.put, List.setIfInBounds_toArray, List.set_cons_zero, List.set_cons_succ, i64_w, i32_w]
          rfl
         exact norm_ (by first | (simp only [putAll, Act.put, List.setIfInBounds_toArray, List.set_cons_zero, List.set_cons_succ]; done) | (simp only [putAll, Act.put, List.setIfInBounds_toArray, List.set_cons_zero, List.set_cons_succ]; rfl)) (hJ3_8_10_12 (u) _ ⟨hHeld, (by (with_reducible repeat (first | apply bN | apply bD | apply bA)); exact c.out), (by (with_reducible repeat (first | apply bN | apply bD | apply bA)); exact m.out), (by (with_reducible repeat (first | apply bN | apply bD | apply bA)); exact y.out), (by (with_reducible repeat (first | apply bN | apply bD | apply bA)); exact A.out), e7.out, d2.out, D.out, b6.out, L.out, b7.out, G.out, b0.out, (by repeat (first | (with_reducible first | exact HB.out | apply zA | apply zN | apply zD | refine zS ?_ b3.out | refine zS ?_ b5.out | refine zS ?_ b9.out | refine zS ?_ d2.out) | exact HB.out))⟩)
        ·skip
         refine box_step ?hg (N := 9) ?hd (cs := #[.int .i64 0, .int .i64 0]) (t := 93) ?hr ?_; (case hd => rfl); (case hg => rfl); (case hr => first | (go_simp; done) | (go_simp; rfl))
         intro q hg w15 hbox hb
         have n0_ := aM (bB (g := d) (o := .cells #[.int .i64 P, .int .i64 R, .int .i64 U, .int .i64 V, .int .i64 X, .bool Y] 40 (0, 0)) (by (with_reducible repeat (first | apply bN | apply bD | apply bA)); exact c.out) hb)
         have n1_ := aM (bB (g := s) (o := .cells #[.int .i64 b1, .int .i64 b2] 93 (0, 0)) (by (with_reducible repeat (first | apply bN | apply bD | apply bA)); exact m.out) hb)
         have n2_ := aM (bB (g := z) (o := .cells #[.int .i64 0, .int .i64 0] 93 (0, 0)) (by (with_reducible repeat (first | apply bN | apply bD | apply bA)); exact y.out) hb)
         have n3_ := aM (bB (g := u) (o := .cells #[.int .i64 0, .int .i64 0] 93 (0, 0)) (by (with_reducible repeat (first | apply bN | apply bD | apply bA)); exact A.out) hb)
         have n4_ := aM (below_step (by repeat (first | (with_reducible first | exact HB.out | apply zA | apply zN | apply zD | refine zS ?_ b3.out | refine zS ?_ b5.out | refine zS ?_ b9.out | refine zS ?_ d2.out) | exact HB.out)) hb)
         have n5_ := aM (hbox)
         have n6_ := aM ((by rw [hg]; exact (below_size (by repeat (first | (with_reducible first | exact HB.out | apply zA | apply zN | apply zD | refine zS ?_ b3.out | refine zS ?_ b5.out | refine zS ?_ b9.out | refine zS ?_ d2.out) | exact HB.out))) : w.heap.size ≤ q))
         have n7_ := aM ((by rw [hg]; exact (below_size (by repeat (first | (with_reducible first | exact HB.out | apply zA | apply zN | apply zD | refine zS ?_ b3.out | refine zS ?_ b5.out | refine zS ?_ b9.out | refine zS ?_ d2.out) | exact HB.out))) : w.heap.size ≤ q))
         have n8_ := aM ((by rw [hg]; exact Nat.ne_of_lt (blk_lt (g := d) (o := .cells #[.int .i64 P, .int .i64 R, .int .i64 U, .int .i64 V, .int .i64 X, .bool Y] 40 (0, 0)) (by (with_reducible repeat (first | apply bN | apply bD | apply bA)); exact c.out)) : d ≠ q))
         have n9_ := aM ((by rw [hg]; exact Nat.ne_of_gt (blk_lt (g := d) (o := .cells #[.int .i64 P, .int .i64 R, .int .i64 U, .int .i64 V, .int .i64 X, .bool Y] 40 (0, 0)) (by (with_reducible repeat (first | apply bN | apply bD | apply bA)); exact c.out)) : q ≠ d))
         have n10_ := aM ((by rw [hg]; exact Nat.ne_of_lt (blk_lt (g := s) (o := .cells #[.int .i64 b1, .int .i64 b2] 93 (0, 0)) (by (with_reducible repeat (first | apply bN | apply bD | apply bA)); exact m.out)) : s ≠ q))
         have n11_ := aM ((by rw [hg]; exact Nat.ne_of_gt (blk_lt (g := s) (o := .cells #[.int .i64 b1, .int .i64 b2] 93 (0, 0)) (by (with_reducible repeat (first | apply bN | apply bD | apply bA)); exact m.out)) : q ≠ s))
         have n12_ := aM ((by rw [hg]; exact Nat.ne_of_lt (blk_lt (g := z) (o := .cells #[.int .i64 0, .int .i64 0] 93 (0, 0)) (by (with_reducible repeat (first | apply bN | apply bD | apply bA)); exact y.out)) : z ≠ q))
         have n13_ := aM ((by rw [hg]; exact Nat.ne_of_gt (blk_lt (g := z) (o := .cells #[.int .i64 0, .int .i64 0] 93 (0, 0)) (by (with_reducible repeat (first | apply bN | apply bD | apply bA)); exact y.out)) : q ≠ z))
         have n14_ := aM ((by rw [hg]; exact Nat.ne_of_lt (blk_lt (g := u) (o := .cells #[.int .i64 0, .int .i64 0] 93 (0, 0)) (by (with_reducible repeat (first | apply bN | apply bD | apply bA)); exact A.out)) : u ≠ q))
         have n15_ := aM ((by rw [hg]; exact Nat.ne_of_gt (blk_lt (g := u) (o := .cells #[.int .i64 0, .int .i64 0] 93 (0, 0)) (by (with_reducible repeat (first | apply bN | apply bD | apply bA)); exact A.out)) : q ≠ u))
         clear c
         clear m
         clear y
         clear A
         clear HB
         have c := n0_
         have m := n1_
         have y := n2_
         have A := n3_
         have HB := n4_
         have C := n5_
         have e6 := n6_
         have d1 := n7_
         have E := n8_
         have c0 := n9_
         have Z := n10_
         have d0 := n11_
         have J := n12_
         have a9 := n13_
         have b8 := n14_
         have b4 := n15_
         clear n0_ n1_ n2_ n3_ n4_ n5_ n6_ n7_ n8_ n9_ n10_ n11_ n12_ n13_ n14_ n15_
         clear hb hbox hg
         refine hK.out _ _ ⟨(blk_cell c.out 0).trans rfl, (blk_cell c.out 1).trans rfl, (blk_cell c.out 2).trans rfl, (blk_cell c.out 3).trans rfl, (blk_cell c.out 4).trans rfl, (blk_cell c.out 5).trans rfl, (blk_cell m.out 0).trans rfl, (blk_cell m.out 1).trans rfl⟩ (fun hHeld => ?_)
         clear hK K
         refine norm_ (a' := ?_) ?_ ?_
         rotate_left
         ·show Act.put _ (some 9) _ = _
          simp only [Act.put, List.setIfInBounds_toArray, List.set_cons_zero, List.set_cons_succ, i64_w, i32_w]
          rfl
         exact norm_ (by first | (simp only [putAll, Act.put, List.setIfInBounds_toArray, List.set_cons_zero, List.set_cons_succ]; done) | (simp only [putAll, Act.put, List.setIfInBounds_toArray, List.set_cons_zero, List.set_cons_succ]; rfl)) (hJ3_8_11_12 (q, u) _ ⟨hHeld, (by (with_reducible repeat (first | apply bN | apply bD | apply bA)); exact c.out), (by (with_reducible repeat (first | apply bN | apply bD | apply bA)); exact m.out), (by (with_reducible repeat (first | apply bN | apply bD | apply bA)); exact y.out), (by (with_reducible repeat (first | apply bN | apply bD | apply bA)); exact C.out), (by (with_reducible repeat (first | apply bN | apply bD | apply bA)); exact A.out), e6.out, d1.out, E.out, c0.out, Z.out, d0.out, J.out, a9.out, b8.out, b4.out, e7.out, d2.out, D.out, b6.out, L.out, b7.out, G.out, b0.out, (by repeat (first | (with_reducible first | exact HB.out | apply zA | apply zN | apply zD | refine zS ?_ b3.out | refine zS ?_ b5.out | refine zS ?_ b9.out | refine zS ?_ d2.out | refine zS ?_ d1.out) | exact HB.out))⟩)
      ·skip
       rintro q w14 ⟨hS_, h0_, h1_, h2_, h3_, h4_, h5_, h6_, h7_, h8_, h9_, h10_, h11_, h12_⟩
       have n0_ : Aside0 (w14.heap[d]? = some (.cells #[.int .i64 P, .int .i64 R, .int .i64 U, .int .i64 V, .int .i64 X, .bool Y] 40 (0, 0))) := ⟨h0_⟩
       have n1_ : Aside0 (w14.heap[s]? = some (.cells #[.int .i64 b1, .int .i64 b2] 93 (0, 0))) := ⟨h1_⟩
       have n2_ : Aside0 (w14.heap[z]? = some (.cells #[.int .i64 0, .int .i64 0] 93 (0, 0))) := ⟨h2_⟩
       have n3_ : Aside0 (w14.heap[q]? = some (.cells #[.int .i64 0, .int .i64 0] 93 (0, 0))) := ⟨h3_⟩
       have n4_ : Aside0 (w.heap.size ≤ q) := ⟨h4_⟩
       have n5_ : Aside0 (w.heap.size ≤ q) := ⟨h5_⟩
       have n6_ : Aside0 (d ≠ q) := ⟨h6_⟩
       have n7_ : Aside0 (q ≠ d) := ⟨h7_⟩
       have n8_ : Aside0 (s ≠ q) := ⟨h8_⟩
       have n9_ : Aside0 (q ≠ s) := ⟨h9_⟩
       have n10_ : Aside0 (z ≠ q) := ⟨h10_⟩
       have n11_ : Aside0 (q ≠ z) := ⟨h11_⟩
       have n12_ : Aside0 (Below w.heap.size w w14) := ⟨h12_⟩
       clear c
       clear m
       clear y
       clear HB
       clear h0_ h1_ h2_ h3_ h4_ h5_ h6_ h7_ h8_ h9_ h10_ h11_ h12_
       have c := n0_
       have m := n1_
       have y := n2_
       have C := n3_
       have e6 := n4_
       have d1 := n5_
       have E := n6_
       have c0 := n7_
       have Z := n8_
       have d0 := n9_
       have J := n10_
       have a9 := n11_
       have HB := n12_
       clear n0_ n1_ n2_ n3_ n4_ n5_ n6_ n7_ n8_ n9_ n10_ n11_ n12_
       have hHeld : w14.cell? ⟨d, 0, none⟩ = some (.int .i64 P) ∧ w14.cell? ⟨d, 1, none⟩ = some (.int .i64 R) ∧ w14.cell? ⟨d, 2, none⟩ = some (.int .i64 U) ∧ w14.cell? ⟨d, 3, none⟩ = some (.int .i64 V) ∧ w14.cell? ⟨d, 4, none⟩ = some (.int .i64 X) ∧ w14.cell? ⟨d, 5, none⟩ = some (.bool Y) ∧ w14.cell? ⟨s, 0, none⟩ = some (.int .i64 b1) ∧ w14.cell? ⟨s, 1, none⟩ = some (.int .i64 b2) := hS_
       refine norm_ (a' := ?_) ?_ ?_
       rotate_left
       ·simp only [putAll, Act.put, List.setIfInBounds_toArray, List.set_cons_zero, List.set_cons_succ]
        rfl
       refine two_ (i := 10) (j := 12) (Ni := some 24) (Nj := some 10) #[true, true, true, true, true, true, true, true, true, true, true, true, false, false, false] #[true, true, true, true, true, true, true, true, true, true, false, true, true, false, false] rfl rfl rfl rfl (two_of HT_.out (by kernel_rfl)) (by decide) (by decide) (fun K hK => ?_) (fun K hK => ?_)
       ·skip
        refine goes_ Try.func121 (by kernel_rfl) rfl #[.agg #[.int .i64 P, .int .i64 R, .int .i64 U, .int .i64 V, .int .i64 X, .bool Y], .agg #[.int .i64 f4, .int .i64 f5], .int .i64 a2] (by rfl) rfl rfl (by (try simp only [List.map_toArray, List.map_cons, List.map_nil]); first | done | rfl) ?_
        with_reducible refine (spec_sdNext.calls k P R U V X Y f4 f5 a2 g1 g2 _ A6.out).mono ?_
        rintro e w15 ⟨rfl, hb⟩
        refine ⟨_, rfl, ?_⟩
        have n0_ := aM (bB (g := d) (o := .cells #[.int .i64 P, .int .i64 R, .int .i64 U, .int .i64 V, .int .i64 X, .bool Y] 40 (0, 0)) (by (with_reducible repeat (first | apply bN | apply bD | apply bA)); exact c.out) hb)
        have n1_ := aM (bB (g := s) (o := .cells #[.int .i64 b1, .int .i64 b2] 93 (0, 0)) (by (with_reducible repeat (first | apply bN | apply bD | apply bA)); exact m.out) hb)
        have n2_ := aM (bB (g := z) (o := .cells #[.int .i64 0, .int .i64 0] 93 (0, 0)) (by (with_reducible repeat (first | apply bN | apply bD | apply bA)); exact y.out) hb)
        have n3_ := aM (bB (g := q) (o := .cells #[.int .i64 0, .int .i64 0] 93 (0, 0)) (by (with_reducible repeat (first | apply bN | apply bD | apply bA)); exact C.out) hb)
        have n4_ := aM (below_step (by repeat (first | (with_reducible first | exact HB.out | apply zA | apply zN | apply zD | refine zS ?_ b3.out | refine zS ?_ b5.out | refine zS ?_ b9.out | refine zS ?_ d1.out) | exact HB.out)) hb)
        clear c
        clear m
        clear y
        clear C
        clear HB
        have c := n0_
        have m := n1_
        have y := n2_
        have C := n3_
        have HB := n4_
        clear n0_ n1_ n2_ n3_ n4_
        (try clear hb)
        (try clear hb2)
        (try clear hk)
        (try clear hi)
        refine hK.out _ _ ⟨(blk_cell c.out 0).trans rfl, (blk_cell c.out 1).trans rfl, (blk_cell c.out 2).trans rfl, (blk_cell c.out 3).trans rfl, (blk_cell c.out 4).trans rfl, (blk_cell c.out 5).trans rfl, (blk_cell m.out 0).trans rfl, (blk_cell m.out 1).trans rfl⟩ (fun hHeld => ?_)
        clear hK K
        refine norm_ (a' := ?_) ?_ ?_
        rotate_left
        ·show Act.put _ (some 24) _ = _
         simp only [Act.put, List.setIfInBounds_toArray, List.set_cons_zero, List.set_cons_succ, i64_w, i32_w]
         rfl
        exact norm_ (by first | (simp only [putAll, Act.put, List.setIfInBounds_toArray, List.set_cons_zero, List.set_cons_succ]; done) | (simp only [putAll, Act.put, List.setIfInBounds_toArray, List.set_cons_zero, List.set_cons_succ]; rfl)) (hJ3_8_10_11 (q) _ ⟨hHeld, (by (with_reducible repeat (first | apply bN | apply bD | apply bA)); exact c.out), (by (with_reducible repeat (first | apply bN | apply bD | apply bA)); exact m.out), (by (with_reducible repeat (first | apply bN | apply bD | apply bA)); exact y.out), (by (with_reducible repeat (first | apply bN | apply bD | apply bA)); exact C.out), e6.out, d1.out, E.out, c0.out, Z.out, d0.out, J.out, a9.out, (by repeat (first | (with_reducible first | exact HB.out | apply zA | apply zN | apply zD | refine zS ?_ b3.out | refine zS ?_ b5.out | refine zS ?_ b9.out | refine zS ?_ d1.out) | exact HB.out))⟩)
       ·skip
        refine box_step ?hg (N := 10) ?hd (cs := #[.int .i64 0, .int .i64 0]) (t := 93) ?hr ?_; (case hd => rfl); (case hg => rfl); (case hr => first | (go_simp; done) | (go_simp; rfl))
        intro u hg w15 hbox hb
        have n0_ := aM (bB (g := d) (o := .cells #[.int .i64 P, .int .i64 R, .int .i64 U, .int .i64 V, .int .i64 X, .bool Y] 40 (0, 0)) (by (with_reducible repeat (first | apply bN | apply bD | apply bA)); exact c.out) hb)
        have n1_ := aM (bB (g := s) (o := .cells #[.int .i64 b1, .int .i64 b2] 93 (0, 0)) (by (with_reducible repeat (first | apply bN | apply bD | apply bA)); exact m.out) hb)
        have n2_ := aM (bB (g := z) (o := .cells #[.int .i64 0, .int .i64 0] 93 (0, 0)) (by (with_reducible repeat (first | apply bN | apply bD | apply bA)); exact y.out) hb)
        have n3_ := aM (bB (g := q) (o := .cells #[.int .i64 0, .int .i64 0] 93 (0, 0)) (by (with_reducible repeat (first | apply bN | apply bD | apply bA)); exact C.out) hb)
        have n4_ := aM (below_step (by repeat (first | (with_reducible first | exact HB.out | apply zA | apply zN | apply zD | refine zS ?_ b3.out | refine zS ?_ b5.out | refine zS ?_ b9.out | refine zS ?_ d1.out) | exact HB.out)) hb)
        have n5_ := aM (hbox)
        have n6_ := aM ((by rw [hg]; exact (below_size (by repeat (first | (with_reducible first | exact HB.out | apply zA | apply zN | apply zD | refine zS ?_ b3.out | refine zS ?_ b5.out | refine zS ?_ b9.out | refine zS ?_ d1.out) | exact HB.out))) : w.heap.size ≤ u))
        have n7_ := aM ((by rw [hg]; exact (below_size (by repeat (first | (with_reducible first | exact HB.out | apply zA | apply zN | apply zD | refine zS ?_ b3.out | refine zS ?_ b5.out | refine zS ?_ b9.out | refine zS ?_ d1.out) | exact HB.out))) : w.heap.size ≤ u))
        have n8_ := aM ((by rw [hg]; exact Nat.ne_of_lt (blk_lt (g := d) (o := .cells #[.int .i64 P, .int .i64 R, .int .i64 U, .int .i64 V, .int .i64 X, .bool Y] 40 (0, 0)) (by (with_reducible repeat (first | apply bN | apply bD | apply bA)); exact c.out)) : d ≠ u))
        have n9_ := aM ((by rw [hg]; exact Nat.ne_of_gt (blk_lt (g := d) (o := .cells #[.int .i64 P, .int .i64 R, .int .i64 U, .int .i64 V, .int .i64 X, .bool Y] 40 (0, 0)) (by (with_reducible repeat (first | apply bN | apply bD | apply bA)); exact c.out)) : u ≠ d))
        have n10_ := aM ((by rw [hg]; exact Nat.ne_of_lt (blk_lt (g := s) (o := .cells #[.int .i64 b1, .int .i64 b2] 93 (0, 0)) (by (with_reducible repeat (first | apply bN | apply bD | apply bA)); exact m.out)) : s ≠ u))
        have n11_ := aM ((by rw [hg]; exact Nat.ne_of_gt (blk_lt (g := s) (o := .cells #[.int .i64 b1, .int .i64 b2] 93 (0, 0)) (by (with_reducible repeat (first | apply bN | apply bD | apply bA)); exact m.out)) : u ≠ s))
        have n12_ := aM ((by rw [hg]; exact Nat.ne_of_lt (blk_lt (g := z) (o := .cells #[.int .i64 0, .int .i64 0] 93 (0, 0)) (by (with_reducible repeat (first | apply bN | apply bD | apply bA)); exact y.out)) : z ≠ u))
        have n13_ := aM ((by rw [hg]; exact Nat.ne_of_gt (blk_lt (g := z) (o := .cells #[.int .i64 0, .int .i64 0] 93 (0, 0)) (by (with_reducible repeat (first | apply bN | apply bD | apply bA)); exact y.out)) : u ≠ z))
        have n14_ := aM ((by rw [hg]; exact Nat.ne_of_lt (blk_lt (g := q) (o := .cells #[.int .i64 0, .int .i64 0] 93 (0, 0)) (by (with_reducible repeat (first | apply bN | apply bD | apply bA)); exact C.out)) : q ≠ u))
        have n15_ := aM ((by rw [hg]; exact Nat.ne_of_gt (blk_lt (g := q) (o := .cells #[.int .i64 0, .int .i64 0] 93 (0, 0)) (by (with_reducible repeat (first | apply bN | apply bD | apply bA)); exact C.out)) : u ≠ q))
        clear c
        clear m
        clear y
        clear C
        clear HB
        have c := n0_
        have m := n1_
        have y := n2_
        have C := n3_
        have HB := n4_
        have A := n5_
        have e7 := n6_
        have d2 := n7_
        have D := n8_
        have b6 := n9_
        have L := n10_
        have b7 := n11_
        have G := n12_
        have b0 := n13_
        have b4 := n14_
        have b8 := n15_
        clear n0_ n1_ n2_ n3_ n4_ n5_ n6_ n7_ n8_ n9_ n10_ n11_ n12_ n13_ n14_ n15_
        clear hb hbox hg
        refine hK.out _ _ ⟨(blk_cell c.out 0).trans rfl, (blk_cell c.out 1).trans rfl, (blk_cell c.out 2).trans rfl, (blk_cell c.out 3).trans rfl, (blk_cell c.out 4).trans rfl, (blk_cell c.out 5).trans rfl, (blk_cell m.out 0).trans rfl, (blk_cell m.out 1).trans rfl⟩ (fun hHeld => ?_)
        clear hK K
        refine norm_ (a' := ?_) ?_ ?_
        rotate_left
        ·show Act.put _ (some 10) _ = _
         simp only [Act.put, List.setIfInBounds_toArray, List.set_cons_zero, List.set_cons_succ, i64_w, i32_w]
         rfl
        exact norm_ (by first | (simp only [putAll, Act.put, List.setIfInBounds_toArray, List.set_cons_zero, List.set_cons_succ]; done) | (simp only [putAll, Act.put, List.setIfInBounds_toArray, List.set_cons_zero, List.set_cons_succ]; rfl)) (hJ3_8_11_12 (q, u) _ ⟨hHeld, (by (with_reducible repeat (first | apply bN | apply bD | apply bA)); exact c.out), (by (with_reducible repeat (first | apply bN | apply bD | apply bA)); exact m.out), (by (with_reducible repeat (first | apply bN | apply bD | apply bA)); exact y.out), (by (with_reducible repeat (first | apply bN | apply bD | apply bA)); exact C.out), (by (with_reducible repeat (first | apply bN | apply bD | apply bA)); exact A.out), e6.out, d1.out, E.out, c0.out, Z.out, d0.out, J.out, a9.out, b8.out, b4.out, e7.out, d2.out, D.out, b6.out, L.out, b7.out, G.out, b0.out, (by repeat (first | (with_reducible first | exact HB.out | apply zA | apply zN | apply zD | refine zS ?_ b3.out | refine zS ?_ b5.out | refine zS ?_ b9.out | refine zS ?_ d1.out | refine zS ?_ d2.out) | exact HB.out))⟩)
     ·skip
      rintro _ w14 ⟨hS_, h0_, h1_, h2_, h3_⟩
      have n0_ : Aside0 (w14.heap[d]? = some (.cells #[.int .i64 P, .int .i64 R, .int .i64 U, .int .i64 V, .int .i64 X, .bool Y] 40 (0, 0))) := ⟨h0_⟩
      have n1_ : Aside0 (w14.heap[s]? = some (.cells #[.int .i64 b1, .int .i64 b2] 93 (0, 0))) := ⟨h1_⟩
      have n2_ : Aside0 (w14.heap[z]? = some (.cells #[.int .i64 0, .int .i64 0] 93 (0, 0))) := ⟨h2_⟩
      have n3_ : Aside0 (Below w.heap.size w w14) := ⟨h3_⟩
      clear c
      clear m
      clear y
      clear HB
      clear h0_ h1_ h2_ h3_
      have c := n0_
      have m := n1_
      have y := n2_
      have HB := n3_
      clear n0_ n1_ n2_ n3_
      have hHeld : w14.cell? ⟨d, 0, none⟩ = some (.int .i64 P) ∧ w14.cell? ⟨d, 1, none⟩ = some (.int .i64 R) ∧ w14.cell? ⟨d, 2, none⟩ = some (.int .i64 U) ∧ w14.cell? ⟨d, 3, none⟩ = some (.int .i64 V) ∧ w14.cell? ⟨d, 4, none⟩ = some (.int .i64 X) ∧ w14.cell? ⟨d, 5, none⟩ = some (.bool Y) ∧ w14.cell? ⟨s, 0, none⟩ = some (.int .i64 b1) ∧ w14.cell? ⟨s, 1, none⟩ = some (.int .i64 b2) := hS_
      refine norm_ (a' := ?_) ?_ ?_
      rotate_left
      ·simp only [putAll, Act.put, List.setIfInBounds_toArray, List.set_cons_zero, List.set_cons_succ]
       rfl
      refine two_ (i := 11) (j := 12) (Ni := some 9) (Nj := some 10) #[true, true, true, true, true, true, true, true, true, true, true, true, false, false, false] #[true, true, true, true, true, true, true, true, true, true, true, false, true, false, false] rfl rfl rfl rfl (two_of HT_.out (by kernel_rfl)) (by decide) (by decide) (fun K hK => ?_) (fun K hK => ?_)
      ·skip
       refine box_step ?hg (N := 9) ?hd (cs := #[.int .i64 0, .int .i64 0]) (t := 93) ?hr ?_; (case hd => rfl); (case hg => rfl); (case hr => first | (go_simp; done) | (go_simp; rfl))
       intro q hg w15 hbox hb
       have n0_ := aM (bB (g := d) (o := .cells #[.int .i64 P, .int .i64 R, .int .i64 U, .int .i64 V, .int .i64 X, .bool Y] 40 (0, 0)) (by (with_reducible repeat (first | apply bN | apply bD | apply bA)); exact c.out) hb)
       have n1_ := aM (bB (g := s) (o := .cells #[.int .i64 b1, .int .i64 b2] 93 (0, 0)) (by (with_reducible repeat (first | apply bN | apply bD | apply bA)); exact m.out) hb)
       have n2_ := aM (bB (g := z) (o := .cells #[.int .i64 0, .int .i64 0] 93 (0, 0)) (by (with_reducible repeat (first | apply bN | apply bD | apply bA)); exact y.out) hb)
       have n3_ := aM (below_step (by repeat (first | (with_reducible first | exact HB.out | apply zA | apply zN | apply zD | refine zS ?_ b3.out | refine zS ?_ b5.out | refine zS ?_ b9.out) | exact HB.out)) hb)
       have n4_ := aM (hbox)
       have n5_ := aM ((by rw [hg]; exact (below_size (by repeat (first | (with_reducible first | exact HB.out | apply zA | apply zN | apply zD | refine zS ?_ b3.out | refine zS ?_ b5.out | refine zS ?_ b9.out) | exact HB.out))) : w.heap.size ≤ q))
       have n6_ := aM ((by rw [hg]; exact (below_size (by repeat (first | (with_reducible first | exact HB.out | apply zA | apply zN | apply zD | refine zS ?_ b3.out | refine zS ?_ b5.out | refine zS ?_ b9.out) | exact HB.out))) : w.heap.size ≤ q))
       have n7_ := aM ((by rw [hg]; exact Nat.ne_of_lt (blk_lt (g := d) (o := .cells #[.int .i64 P, .int .i64 R, .int .i64 U, .int .i64 V, .int .i64 X, .bool Y] 40 (0, 0)) (by (with_reducible repeat (first | apply bN | apply bD | apply bA)); exact c.out)) : d ≠ q))
       have n8_ := aM ((by rw [hg]; exact Nat.ne_of_gt (blk_lt (g := d) (o := .cells #[.int .i64 P, .int .i64 R, .int .i64 U, .int .i64 V, .int .i64 X, .bool Y] 40 (0, 0)) (by (with_reducible repeat (first | apply bN | apply bD | apply bA)); exact c.out)) : q ≠ d))
       have n9_ := aM ((by rw [hg]; exact Nat.ne_of_lt (blk_lt (g := s) (o := .cells #[.int .i64 b1, .int .i64 b2] 93 (0, 0)) (by (with_reducible repeat (first | apply bN | apply bD | apply bA)); exact m.out)) : s ≠ q))
       have n10_ := aM ((by rw [hg]; exact Nat.ne_of_gt (blk_lt (g := s) (o := .cells #[.int .i64 b1, .int .i64 b2] 93 (0, 0)) (by (with_reducible repeat (first | apply bN | apply bD | apply bA)); exact m.out)) : q ≠ s))
       have n11_ := aM ((by rw [hg]; exact Nat.ne_of_lt (blk_lt (g := z) (o := .cells #[.int .i64 0, .int .i64 0] 93 (0, 0)) (by (with_reducible repeat (first | apply bN | apply bD | apply bA)); exact y.out)) : z ≠ q))
       have n12_ := aM ((by rw [hg]; exact Nat.ne_of_gt (blk_lt (g := z) (o := .cells #[.int .i64 0, .int .i64 0] 93 (0, 0)) (by (with_reducible repeat (first | apply bN | apply bD | apply bA)); exact y.out)) : q ≠ z))
       clear c
       clear m
       clear y
       clear HB
       have c := n0_
       have m := n1_
       have y := n2_
       have HB := n3_
       have C := n4_
       have e6 := n5_
       have d1 := n6_
       have E := n7_
       have c0 := n8_
       have Z := n9_
       have d0 := n10_
       have J := n11_
       have a9 := n12_
       clear n0_ n1_ n2_ n3_ n4_ n5_ n6_ n7_ n8_ n9_ n10_ n11_ n12_
       clear hb hbox hg
       refine hK.out _ _ ⟨(blk_cell c.out 0).trans rfl, (blk_cell c.out 1).trans rfl, (blk_cell c.out 2).trans rfl, (blk_cell c.out 3).trans rfl, (blk_cell c.out 4).trans rfl, (blk_cell c.out 5).trans rfl, (blk_cell m.out 0).trans rfl, (blk_cell m.out 1).trans rfl⟩ (fun hHeld => ?_)
       clear hK K
       refine norm_ (a' := ?_) ?_ ?_
       rotate_left
       ·show Act.put _ (some 9) _ = _
        simp only [Act.put, List.setIfInBounds_toArray, List.set_cons_zero, List.set_cons_succ, i64_w, i32_w]
        rfl
       exact norm_ (by first | (simp only [putAll, Act.put, List.setIfInBounds_toArray, List.set_cons_zero, List.set_cons_succ]; done) | (simp only [putAll, Act.put, List.setIfInBounds_toArray, List.set_cons_zero, List.set_cons_succ]; rfl)) (hJ3_8_10_11 (q) _ ⟨hHeld, (by (with_reducible repeat (first | apply bN | apply bD | apply bA)); exact c.out), (by (with_reducible repeat (first | apply bN | apply bD | apply bA)); exact m.out), (by (with_reducible repeat (first | apply bN | apply bD | apply bA)); exact y.out), (by (with_reducible repeat (first | apply bN | apply bD | apply bA)); exact C.out), e6.out, d1.out, E.out, c0.out, Z.out, d0.out, J.out, a9.out, (by repeat (first | (with_reducible first | exact HB.out | apply zA | apply zN | apply zD | refine zS ?_ b3.out | refine zS ?_ b5.out | refine zS ?_ b9.out | refine zS ?_ d1.out) | exact HB.out))⟩)
      ·skip
       refine box_step ?hg (N := 10) ?hd (cs := #[.int .i64 0, .int .i64 0]) (t := 93) ?hr ?_; (case hd => rfl); (case hg => rfl); (case hr => first | (go_simp; done) | (go_simp; rfl))
       intro u hg w15 hbox hb
       have n0_ := aM (bB (g := d) (o := .cells #[.int .i64 P, .int .i64 R, .int .i64 U, .int .i64 V, .int .i64 X, .bool Y] 40 (0, 0)) (by (with_reducible repeat (first | apply bN | apply bD | apply bA)); exact c.out) hb)
       have n1_ := aM (bB (g := s) (o := .cells #[.int .i64 b1, .int .i64 b2] 93 (0, 0)) (by (with_reducible repeat (first | apply bN | apply bD | apply bA)); exact m.out) hb)
       have n2_ := aM (bB (g := z) (o := .cells #[.int .i64 0, .int .i64 0] 93 (0, 0)) (by (with_reducible repeat (first | apply bN | apply bD | apply bA)); exact y.out) hb)
       have n3_ := aM (below_step (by repeat (first | (with_reducible first | exact HB.out | apply zA | apply zN | apply zD | refine zS ?_ b3.out | refine zS ?_ b5.out | refine zS ?_ b9.out) | exact HB.out)) hb)
       have n4_ := aM (hbox)
       have n5_ := aM ((by rw [hg]; exact (below_size (by repeat (first | (with_reducible first | exact HB.out | apply zA | apply zN | apply zD | refine zS ?_ b3.out | refine zS ?_ b5.out | refine zS ?_ b9.out) | exact HB.out))) : w.heap.size ≤ u))
       have n6_ := aM ((by rw [hg]; exact (below_size (by repeat (first | (with_reducible first | exact HB.out | apply zA | apply zN | apply zD | refine zS ?_ b3.out | refine zS ?_ b5.out | refine zS ?_ b9.out) | exact HB.out))) : w.heap.size ≤ u))
       have n7_ := aM ((by rw [hg]; exact Nat.ne_of_lt (blk_lt (g := d) (o := .cells #[.int .i64 P, .int .i64 R, .int .i64 U, .int .i64 V, .int .i64 X, .bool Y] 40 (0, 0)) (by (with_reducible repeat (first | apply bN | apply bD | apply bA)); exact c.out)) : d ≠ u))
       have n8_ := aM ((by rw [hg]; exact Nat.ne_of_gt (blk_lt (g := d) (o := .cells #[.int .i64 P, .int .i64 R, .int .i64 U, .int .i64 V, .int .i64 X, .bool Y] 40 (0, 0)) (by (with_reducible repeat (first | apply bN | apply bD | apply bA)); exact c.out)) : u ≠ d))
       have n9_ := aM ((by rw [hg]; exact Nat.ne_of_lt (blk_lt (g := s) (o := .cells #[.int .i64 b1, .int .i64 b2] 93 (0, 0)) (by (with_reducible repeat (first | apply bN | apply bD | apply bA)); exact m.out)) : s ≠ u))
       have n10_ := aM ((by rw [hg]; exact Nat.ne_of_gt (blk_lt (g := s) (o := .cells #[.int .i64 b1, .int .i64 b2] 93 (0, 0)) (by (with_reducible repeat (first | apply bN | apply bD | apply bA)); exact m.out)) : u ≠ s))
       have n11_ := aM ((by rw [hg]; exact Nat.ne_of_lt (blk_lt (g := z) (o := .cells #[.int .i64 0, .int .i64 0] 93 (0, 0)) (by (with_reducible repeat (first | apply bN | apply bD | apply bA)); exact y.out)) : z ≠ u))
       have n12_ := aM ((by rw [hg]; exact Nat.ne_of_gt (blk_lt (g := z) (o := .cells #[.int .i64 0, .int .i64 0] 93 (0, 0)) (by (with_reducible repeat (first | apply bN | apply bD | apply bA)); exact y.out)) : u ≠ z))
       clear c
       clear m
       clear y
       clear HB
       have c := n0_
       have m := n1_
       have y := n2_
       have HB := n3_
       have A := n4_
       have e7 := n5_
       have d2 := n6_
       have D := n7_
       have b6 := n8_
       have L := n9_
       have b7 := n10_
       have G := n11_
       have b0 := n12_
       clear n0_ n1_ n2_ n3_ n4_ n5_ n6_ n7_ n8_ n9_ n10_ n11_ n12_
       clear hb hbox hg
       refine hK.out _ _ ⟨(blk_cell c.out 0).trans rfl, (blk_cell c.out 1).trans rfl, (blk_cell c.out 2).trans rfl, (blk_cell c.out 3).trans rfl, (blk_cell c.out 4).trans rfl, (blk_cell c.out 5).trans rfl, (blk_cell m.out 0).trans rfl, (blk_cell m.out 1).trans rfl⟩ (fun hHeld => ?_)
       clear hK K
       refine norm_ (a' := ?_) ?_ ?_
       rotate_left
       ·show Act.put _ (some 10) _ = _
        simp only [Act.put, List.setIfInBounds_toArray, List.set_cons_zero, List.set_cons_succ, i64_w, i32_w]
        rfl
       exact norm_ (by first | (simp only [putAll, Act.put, List.setIfInBounds_toArray, List.set_cons_zero, List.set_cons_succ]; done) | (simp only [putAll, Act.put, List.setIfInBounds_toArray, List.set_cons_zero, List.set_cons_succ]; rfl)) (hJ3_8_10_12 (u) _ ⟨hHeld, (by (with_reducible repeat (first | apply bN | apply bD | apply bA)); exact c.out), (by (with_reducible repeat (first | apply bN | apply bD | apply bA)); exact m.out), (by (with_reducible repeat (first | apply bN | apply bD | apply bA)); exact y.out), (by (with_reducible repeat (first | apply bN | apply bD | apply bA)); exact A.out), e7.out, d2.out, D.out, b6.out, L.out, b7.out, G.out, b0.out, (by repeat (first | (with_reducible first | exact HB.out | apply zA | apply zN | apply zD | refine zS ?_ b3.out | refine zS ?_ b5.out | refine zS ?_ b9.out | refine zS ?_ d2.out) | exact HB.out))⟩)
    ·skip
     rintro ⟨q, u⟩ w15 ⟨hS_, h0_, h1_, h2_, h3_, h4_, h5_, h6_, h7_, h8_, h9_, h10_, h11_, h12_, h13_, h14_, h15_, h16_, h17_, h18_, h19_, h20_, h21_, h22_, h23_⟩
     have n0_ : Aside0 (w15.heap[d]? = some (.cells #[.int .i64 P, .int .i64 R, .int .i64 U, .int .i64 V, .int .i64 X, .bool Y] 40 (0, 0))) := ⟨h0_⟩
     have n1_ : Aside0 (w15.heap[s]? = some (.cells #[.int .i64 b1, .int .i64 b2] 93 (0, 0))) := ⟨h1_⟩
     have n2_ : Aside0 (w15.heap[z]? = some (.cells #[.int .i64 0, .int .i64 0] 93 (0, 0))) := ⟨h2_⟩
     have n3_ : Aside0 (w15.heap[q]? = some (.cells #[.int .i64 0, .int .i64 0] 93 (0, 0))) := ⟨h3_⟩
     have n4_ : Aside0 (w15.heap[u]? = some (.cells #[.int .i64 0, .int .i64 0] 93 (0, 0))) := ⟨h4_⟩
     have n5_ : Aside0 (w.heap.size ≤ q) := ⟨h5_⟩
     have n6_ : Aside0 (w.heap.size ≤ q) := ⟨h6_⟩
     have n7_ : Aside0 (d ≠ q) := ⟨h7_⟩
     have n8_ : Aside0 (q ≠ d) := ⟨h8_⟩
     have n9_ : Aside0 (s ≠ q) := ⟨h9_⟩
     have n10_ : Aside0 (q ≠ s) := ⟨h10_⟩
     have n11_ : Aside0 (z ≠ q) := ⟨h11_⟩
     have n12_ : Aside0 (q ≠ z) := ⟨h12_⟩
     have n13_ : Aside0 (u ≠ q) := ⟨h13_⟩
     have n14_ : Aside0 (q ≠ u) := ⟨h14_⟩
     have n15_ : Aside0 (w.heap.size ≤ u) := ⟨h15_⟩
     have n16_ : Aside0 (w.heap.size ≤ u) := ⟨h16_⟩
     have n17_ : Aside0 (d ≠ u) := ⟨h17_⟩
     have n18_ : Aside0 (u ≠ d) := ⟨h18_⟩
     have n19_ : Aside0 (s ≠ u) := ⟨h19_⟩
     have n20_ : Aside0 (u ≠ s) := ⟨h20_⟩
     have n21_ : Aside0 (z ≠ u) := ⟨h21_⟩
     have n22_ : Aside0 (u ≠ z) := ⟨h22_⟩
     have n23_ : Aside0 (Below w.heap.size w w15) := ⟨h23_⟩
     clear c
     clear m
     clear y
     clear HB
     clear h0_ h1_ h2_ h3_ h4_ h5_ h6_ h7_ h8_ h9_ h10_ h11_ h12_ h13_ h14_ h15_ h16_ h17_ h18_ h19_ h20_ h21_ h22_ h23_
     have c := n0_
     have m := n1_
     have y := n2_
     have C := n3_
     have A := n4_
     have e6 := n5_
     have d1 := n6_
     have E := n7_
     have c0 := n8_
     have Z := n9_
     have d0 := n10_
     have J := n11_
     have a9 := n12_
     have b8 := n13_
     have b4 := n14_
     have e7 := n15_
     have d2 := n16_
     have D := n17_
     have b6 := n18_
     have L := n19_
     have b7 := n20_
     have G := n21_
     have b0 := n22_
     have HB := n23_
     clear n0_ n1_ n2_ n3_ n4_ n5_ n6_ n7_ n8_ n9_ n10_ n11_ n12_ n13_ n14_ n15_ n16_ n17_ n18_ n19_ n20_ n21_ n22_ n23_
     have hHeld : w15.cell? ⟨d, 0, none⟩ = some (.int .i64 P) ∧ w15.cell? ⟨d, 1, none⟩ = some (.int .i64 R) ∧ w15.cell? ⟨d, 2, none⟩ = some (.int .i64 U) ∧ w15.cell? ⟨d, 3, none⟩ = some (.int .i64 V) ∧ w15.cell? ⟨d, 4, none⟩ = some (.int .i64 X) ∧ w15.cell? ⟨d, 5, none⟩ = some (.bool Y) ∧ w15.cell? ⟨s, 0, none⟩ = some (.int .i64 b1) ∧ w15.cell? ⟨s, 1, none⟩ = some (.int .i64 b2) := hS_
     refine norm_ (a' := ?_) ?_ ?_
     rotate_left
     ·simp only [putAll, Act.put, List.setIfInBounds_toArray, List.set_cons_zero, List.set_cons_succ]
      rfl
     refine one_ (i := 10) (N := some 24) #[true, true, true, true, true, true, true, true, true, true, true, true, true, false, false] rfl rfl (one_of HT_.out (by kernel_rfl)) (by decide) (fun K hK => ?_)
     refine goes_ Try.func121 (by kernel_rfl) rfl #[.agg #[.int .i64 P, .int .i64 R, .int .i64 U, .int .i64 V, .int .i64 X, .bool Y], .agg #[.int .i64 f4, .int .i64 f5], .int .i64 a2] (by rfl) rfl rfl (by (try simp only [List.map_toArray, List.map_cons, List.map_nil]); first | done | rfl) ?_
     with_reducible refine (spec_sdNext.calls k P R U V X Y f4 f5 a2 g1 g2 _ A6.out).mono ?_
     rintro e w16 ⟨rfl, hb⟩
     refine ⟨_, rfl, ?_⟩
     have n0_ := aM (bB (g := d) (o := .cells #[.int .i64 P, .int .i64 R, .int .i64 U, .int .i64 V, .int .i64 X, .bool Y] 40 (0, 0)) (by (with_reducible repeat (first | apply bN | apply bD | apply bA)); exact c.out) hb)
     have n1_ := aM (bB (g := s) (o := .cells #[.int .i64 b1, .int .i64 b2] 93 (0, 0)) (by (with_reducible repeat (first | apply bN | apply bD | apply bA)); exact m.out) hb)
     have n2_ := aM (bB (g := z) (o := .cells #[.int .i64 0, .int .i64 0] 93 (0, 0)) (by (with_reducible repeat (first | apply bN | apply bD | apply bA)); exact y.out) hb)
     have n3_ := aM (bB (g := q) (o := .cells #[.int .i64 0, .int .i64 0] 93 (0, 0)) (by (with_reducible repeat (first | apply bN | apply bD | apply bA)); exact C.out) hb)
     have n4_ := aM (bB (g := u) (o := .cells #[.int .i64 0, .int .i64 0] 93 (0, 0)) (by (with_reducible repeat (first | apply bN | apply bD | apply bA)); exact A.out) hb)
     have n5_ := aM (below_step (by repeat (first | (with_reducible first | exact HB.out | apply zA | apply zN | apply zD | refine zS ?_ b3.out | refine zS ?_ b5.out | refine zS ?_ b9.out | refine zS ?_ d1.out | refine zS ?_ d2.out) | exact HB.out)) hb)
     clear c
     clear m
     clear y
     clear C
     clear A
     clear HB
     have c := n0_
     have m := n1_
     have y := n2_
     have C := n3_
     have A := n4_
     have HB := n5_
     clear n0_ n1_ n2_ n3_ n4_ n5_
     (try clear hb)
     (try clear hb2)
     (try clear hk)
     (try clear hi)
     refine hK.out _ _ ⟨(blk_cell c.out 0).trans rfl, (blk_cell c.out 1).trans rfl, (blk_cell c.out 2).trans rfl, (blk_cell c.out 3).trans rfl, (blk_cell c.out 4).trans rfl, (blk_cell c.out 5).trans rfl, (blk_cell m.out 0).trans rfl, (blk_cell m.out 1).trans rfl⟩ (fun hHeld => ?_)
     clear hK K
     refine norm_ (a' := ?_) ?_ ?_
     rotate_left
     ·show Act.put _ (some 24) _ = _
      simp only [Act.put, List.setIfInBounds_toArray, List.set_cons_zero, List.set_cons_succ, i64_w, i32_w]
      rfl
     exact norm_ (by first | (simp only [putAll, Act.put, List.setIfInBounds_toArray, List.set_cons_zero, List.set_cons_succ]; done) | (simp only [putAll, Act.put, List.setIfInBounds_toArray, List.set_cons_zero, List.set_cons_succ]; rfl)) (hJ3_8_10_11_12 (q, u) _ ⟨hHeld, (by (with_reducible repeat (first | apply bN | apply bD | apply bA)); exact c.out), (by (with_reducible repeat (first | apply bN | apply bD | apply bA)); exact m.out), (by (with_reducible repeat (first | apply bN | apply bD | apply bA)); exact y.out), (by (with_reducible repeat (first | apply bN | apply bD | apply bA)); exact C.out), (by (with_reducible repeat (first | apply bN | apply bD | apply bA)); exact A.out), e6.out, d1.out, E.out, c0.out, Z.out, d0.out, J.out, a9.out, b8.out, b4.out, e7.out, d2.out, D.out, b6.out, L.out, b7.out, G.out, b0.out, (by repeat (first | (with_reducible first | exact HB.out | apply zA | apply zN | apply zD | refine zS ?_ b3.out | refine zS ?_ b5.out | refine zS ?_ b9.out | refine zS ?_ d1.out | refine zS ?_ d2.out) | exact HB.out))⟩)
   ·skip
    rintro u w15 ⟨hS_, h0_, h1_, h2_, h3_, h4_, h5_, h6_, h7_, h8_, h9_, h10_, h11_, h12_⟩
    have n0_ : Aside0 (w15.heap[d]? = some (.cells #[.int .i64 P, .int .i64 R, .int .i64 U, .int .i64 V, .int .i64 X, .bool Y] 40 (0, 0))) := ⟨h0_⟩
    have n1_ : Aside0 (w15.heap[s]? = some (.cells #[.int .i64 b1, .int .i64 b2] 93 (0, 0))) := ⟨h1_⟩
    have n2_ : Aside0 (w15.heap[z]? = some (.cells #[.int .i64 0, .int .i64 0] 93 (0, 0))) := ⟨h2_⟩
    have n3_ : Aside0 (w15.heap[u]? = some (.cells #[.int .i64 0, .int .i64 0] 93 (0, 0))) := ⟨h3_⟩
    have n4_ : Aside0 (w.heap.size ≤ u) := ⟨h4_⟩
    have n5_ : Aside0 (w.heap.size ≤ u) := ⟨h5_⟩
    have n6_ : Aside0 (d ≠ u) := ⟨h6_⟩
    have n7_ : Aside0 (u ≠ d) := ⟨h7_⟩
    have n8_ : Aside0 (s ≠ u) := ⟨h8_⟩
    have n9_ : Aside0 (u ≠ s) := ⟨h9_⟩
    have n10_ : Aside0 (z ≠ u) := ⟨h10_⟩
    have n11_ : Aside0 (u ≠ z) := ⟨h11_⟩
    have n12_ : Aside0 (Below w.heap.size w w15) := ⟨h12_⟩
    clear c
    clear m
    clear y
    clear HB
    clear h0_ h1_ h2_ h3_ h4_ h5_ h6_ h7_ h8_ h9_ h10_ h11_ h12_
    have c := n0_
    have m := n1_
    have y := n2_
    have A := n3_
    have e7 := n4_
    have d2 := n5_
    have D := n6_
    have b6 := n7_
    have L := n8_
    have b7 := n9_
    have G := n10_
    have b0 := n11_
    have HB := n12_
    clear n0_ n1_ n2_ n3_ n4_ n5_ n6_ n7_ n8_ n9_ n10_ n11_ n12_
    have hHeld : w15.cell? ⟨d, 0, none⟩ = some (.int .i64 P) ∧ w15.cell? ⟨d, 1, none⟩ = some (.int .i64 R) ∧ w15.cell? ⟨d, 2, none⟩ = some (.int .i64 U) ∧ w15.cell? ⟨d, 3, none⟩ = some (.int .i64 V) ∧ w15.cell? ⟨d, 4, none⟩ = some (.int .i64 X) ∧ w15.cell? ⟨d, 5, none⟩ = some (.bool Y) ∧ w15.cell? ⟨s, 0, none⟩ = some (.int .i64 b1) ∧ w15.cell? ⟨s, 1, none⟩ = some (.int .i64 b2) := hS_
    refine norm_ (a' := ?_) ?_ ?_
    rotate_left
    ·simp only [putAll, Act.put, List.setIfInBounds_toArray, List.set_cons_zero, List.set_cons_succ]
     rfl
    refine one_ (i := 11) (N := some 9) #[true, true, true, true, true, true, true, true, true, true, true, true, true, false, false] rfl rfl (one_of HT_.out (by kernel_rfl)) (by decide) (fun K hK => ?_)
    refine box_step ?hg (N := 9) ?hd (cs := #[.int .i64 0, .int .i64 0]) (t := 93) ?hr ?_; (case hd => rfl); (case hg => rfl); (case hr => first | (go_simp; done) | (go_simp; rfl))
    intro q hg w16 hbox hb
    have n0_ := aM (bB (g := d) (o := .cells #[.int .i64 P, .int .i64 R, .int .i64 U, .int .i64 V, .int .i64 X, .bool Y] 40 (0, 0)) (by (with_reducible repeat (first | apply bN | apply bD | apply bA)); exact c.out) hb)
    have n1_ := aM (bB (g := s) (o := .cells #[.int .i64 b1, .int .i64 b2] 93 (0, 0)) (by (with_reducible repeat (first | apply bN | apply bD | apply bA)); exact m.out) hb)
    have n2_ := aM (bB (g := z) (o := .cells #[.int .i64 0, .int .i64 0] 93 (0, 0)) (by (with_reducible repeat (first | apply bN | apply bD | apply bA)); exact y.out) hb)
    have n3_ := aM (bB (g := u) (o := .cells #[.int .i64 0, .int .i64 0] 93 (0, 0)) (by (with_reducible repeat (first | apply bN | apply bD | apply bA)); exact A.out) hb)
    have n4_ := aM (below_step (by repeat (first | (with_reducible first | exact HB.out | apply zA | apply zN | apply zD | refine zS ?_ b3.out | refine zS ?_ b5.out | refine zS ?_ b9.out | refine zS ?_ d2.out) | exact HB.out)) hb)
    have n5_ := aM (hbox)
    have n6_ := aM ((by rw [hg]; exact (below_size (by repeat (first | (with_reducible first | exact HB.out | apply zA | apply zN | apply zD | refine zS ?_ b3.out | refine zS ?_ b5.out | refine zS ?_ b9.out | refine zS ?_ d2.out) | exact HB.out))) : w.heap.size ≤ q))
    have n7_ := aM ((by rw [hg]; exact (below_size (by repeat (first | (with_reducible first | exact HB.out | apply zA | apply zN | apply zD | refine zS ?_ b3.out | refine zS ?_ b5.out | refine zS ?_ b9.out | refine zS ?_ d2.out) | exact HB.out))) : w.heap.size ≤ q))
    have n8_ := aM ((by rw [hg]; exact Nat.ne_of_lt (blk_lt (g := d) (o := .cells #[.int .i64 P, .int .i64 R, .int .i64 U, .int .i64 V, .int .i64 X, .bool Y] 40 (0, 0)) (by (with_reducible repeat (first | apply bN | apply bD | apply bA)); exact c.out)) : d ≠ q))
    have n9_ := aM ((by rw [hg]; exact Nat.ne_of_gt (blk_lt (g := d) (o := .cells #[.int .i64 P, .int .i64 R, .int .i64 U, .int .i64 V, .int .i64 X, .bool Y] 40 (0, 0)) (by (with_reducible repeat (first | apply bN | apply bD | apply bA)); exact c.out)) : q ≠ d))
    have n10_ := aM ((by rw [hg]; exact Nat.ne_of_lt (blk_lt (g := s) (o := .cells #[.int .i64 b1, .int .i64 b2] 93 (0, 0)) (by (with_reducible repeat (first | apply bN | apply bD | apply bA)); exact m.out)) : s ≠ q))
    have n11_ := aM ((by rw [hg]; exact Nat.ne_of_gt (blk_lt (g := s) (o := .cells #[.int .i64 b1, .int .i64 b2] 93 (0, 0)) (by (with_reducible repeat (first | apply bN | apply bD | apply bA)); exact m.out)) : q ≠ s))
    have n12_ := aM ((by rw [hg]; exact Nat.ne_of_lt (blk_lt (g := z) (o := .cells #[.int .i64 0, .int .i64 0] 93 (0, 0)) (by (with_reducible repeat (first | apply bN | apply bD | apply bA)); exact y.out)) : z ≠ q))
    have n13_ := aM ((by rw [hg]; exact Nat.ne_of_gt (blk_lt (g := z) (o := .cells #[.int .i64 0, .int .i64 0] 93 (0, 0)) (by (with_reducible repeat (first | apply bN | apply bD | apply bA)); exact y.out)) : q ≠ z))
    have n14_ := aM ((by rw [hg]; exact Nat.ne_of_lt (blk_lt (g := u) (o := .cells #[.int .i64 0, .int .i64 0] 93 (0, 0)) (by (with_reducible repeat (first | apply bN | apply bD | apply bA)); exact A.out)) : u ≠ q))
    have n15_ := aM ((by rw [hg]; exact Nat.ne_of_gt (blk_lt (g := u) (o := .cells #[.int .i64 0, .int .i64 0] 93 (0, 0)) (by (with_reducible repeat (first | apply bN | apply bD | apply bA)); exact A.out)) : q ≠ u))
    clear c
    clear m
    clear y
    clear A
    clear HB
    have c := n0_
    have m := n1_
    have y := n2_
    have A := n3_
    have HB := n4_
    have C := n5_
    have e6 := n6_
    have d1 := n7_
    have E := n8_
    have c0 := n9_
    have Z := n10_
    have d0 := n11_
    have J := n12_
    have a9 := n13_
    have b8 := n14_
    have b4 := n15_
    clear n0_ n1_ n2_ n3_ n4_ n5_ n6_ n7_ n8_ n9_ n10_ n11_ n12_ n13_ n14_ n15_
    clear hb hbox hg
    refine hK.out _ _ ⟨(blk_cell c.out 0).trans rfl, (blk_cell c.out 1).trans rfl, (blk_cell c.out 2).trans rfl, (blk_cell c.out 3).trans rfl, (blk_cell c.out 4).trans rfl, (blk_cell c.out 5).trans rfl, (blk_cell m.out 0).trans rfl, (blk_cell m.out 1).trans rfl⟩ (fun hHeld => ?_)
    clear hK K
    refine norm_ (a' := ?_) ?_ ?_
    rotate_left
    ·show Act.put _ (some 9) _ = _
     simp only [Act.put, List.setIfInBounds_toArray, List.set_cons_zero, List.set_cons_succ, i64_w, i32_w]
     rfl
    exact norm_ (by first | (simp only [putAll, Act.put, List.setIfInBounds_toArray, List.set_cons_zero, List.set_cons_succ]; done) | (simp only [putAll, Act.put, List.setIfInBounds_toArray, List.set_cons_zero, List.set_cons_succ]; rfl)) (hJ3_8_10_11_12 (q, u) _ ⟨hHeld, (by (with_reducible repeat (first | apply bN | apply bD | apply bA)); exact c.out), (by (with_reducible repeat (first | apply bN | apply bD | apply bA)); exact m.out), (by (with_reducible repeat (first | apply bN | apply bD | apply bA)); exact y.out), (by (with_reducible repeat (first | apply bN | apply bD | apply bA)); exact C.out), (by (with_reducible repeat (first | apply bN | apply bD | apply bA)); exact A.out), e6.out, d1.out, E.out, c0.out, Z.out, d0.out, J.out, a9.out, b8.out, b4.out, e7.out, d2.out, D.out, b6.out, L.out, b7.out, G.out, b0.out, (by repeat (first | (with_reducible first | exact HB.out | apply zA | apply zN | apply zD | refine zS ?_ b3.out | refine zS ?_ b5.out | refine zS ?_ b9.out | refine zS ?_ d2.out | refine zS ?_ d1.out) | exact HB.out))⟩)
  ·skip
   rintro q w15 ⟨hS_, h0_, h1_, h2_, h3_, h4_, h5_, h6_, h7_, h8_, h9_, h10_, h11_, h12_⟩
   have n0_ : Aside0 (w15.heap[d]? = some (.cells #[.int .i64 P, .int .i64 R, .int .i64 U, .int .i64 V, .int .i64 X, .bool Y] 40 (0, 0))) := ⟨h0_⟩
   have n1_ : Aside0 (w15.heap[s]? = some (.cells #[.int .i64 b1, .int .i64 b2] 93 (0, 0))) := ⟨h1_⟩
   have n2_ : Aside0 (w15.heap[z]? = some (.cells #[.int .i64 0, .int .i64 0] 93 (0, 0))) := ⟨h2_⟩
   have n3_ : Aside0 (w15.heap[q]? = some (.cells #[.int .i64 0, .int .i64 0] 93 (0, 0))) := ⟨h3_⟩
   have n4_ : Aside0 (w.heap.size ≤ q) := ⟨h4_⟩
   have n5_ : Aside0 (w.heap.size ≤ q) := ⟨h5_⟩
   have n6_ : Aside0 (d ≠ q) := ⟨h6_⟩
   have n7_ : Aside0 (q ≠ d) := ⟨h7_⟩
   have n8_ : Aside0 (s ≠ q) := ⟨h8_⟩
   have n9_ : Aside0 (q ≠ s) := ⟨h9_⟩
   have n10_ : Aside0 (z ≠ q) := ⟨h10_⟩
   have n11_ : Aside0 (q ≠ z) := ⟨h11_⟩
   have n12_ : Aside0 (Below w.heap.size w w15) := ⟨h12_⟩
   clear c
   clear m
   clear y
   clear HB
   clear h0_ h1_ h2_ h3_ h4_ h5_ h6_ h7_ h8_ h9_ h10_ h11_ h12_
   have c := n0_
   have m := n1_
   have y := n2_
   have C := n3_
   have e6 := n4_
   have d1 := n5_
   have E := n6_
   have c0 := n7_
   have Z := n8_
   have d0 := n9_
   have J := n10_
   have a9 := n11_
   have HB := n12_
   clear n0_ n1_ n2_ n3_ n4_ n5_ n6_ n7_ n8_ n9_ n10_ n11_ n12_
   have hHeld : w15.cell? ⟨d, 0, none⟩ = some (.int .i64 P) ∧ w15.cell? ⟨d, 1, none⟩ = some (.int .i64 R) ∧ w15.cell? ⟨d, 2, none⟩ = some (.int .i64 U) ∧ w15.cell? ⟨d, 3, none⟩ = some (.int .i64 V) ∧ w15.cell? ⟨d, 4, none⟩ = some (.int .i64 X) ∧ w15.cell? ⟨d, 5, none⟩ = some (.bool Y) ∧ w15.cell? ⟨s, 0, none⟩ = some (.int .i64 b1) ∧ w15.cell? ⟨s, 1, none⟩ = some (.int .i64 b2) := hS_
   refine norm_ (a' := ?_) ?_ ?_
   rotate_left
   ·simp only [putAll, Act.put, List.setIfInBounds_toArray, List.set_cons_zero, List.set_cons_succ]
    rfl
   refine one_ (i := 12) (N := some 10) #[true, true, true, true, true, true, true, true, true, true, true, true, true, false, false] rfl rfl (one_of HT_.out (by kernel_rfl)) (by decide) (fun K hK => ?_)
   refine box_step ?hg (N := 10) ?hd (cs := #[.int .i64 0, .int .i64 0]) (t := 93) ?hr ?_; (case hd => rfl); (case hg => rfl); (case hr => first | (go_simp; done) | (go_simp; rfl))
   intro u hg w16 hbox hb
   have n0_ := aM (bB (g := d) (o := .cells #[.int .i64 P, .int .i64 R, .int .i64 U, .int .i64 V, .int .i64 X, .bool Y] 40 (0, 0)) (by (with_reducible repeat (first | apply bN | apply bD | apply bA)); exact c.out) hb)
   have n1_ := aM (bB (g := s) (o := .cells #[.int .i64 b1, .int .i64 b2] 93 (0, 0)) (by (with_reducible repeat (first | apply bN | apply bD | apply bA)); exact m.out) hb)
   have n2_ := aM (bB (g := z) (o := .cells #[.int .i64 0, .int .i64 0] 93 (0, 0)) (by (with_reducible repeat (first | apply bN | apply bD | apply bA)); exact y.out) hb)
   have n3_ := aM (bB (g := q) (o := .cells #[.int .i64 0, .int .i64 0] 93 (0, 0)) (by (with_reducible repeat (first | apply bN | apply bD | apply bA)); exact C.out) hb)
   have n4_ := aM (below_step (by repeat (first | (with_reducible first | exact HB.out | apply zA | apply zN | apply zD | refine zS ?_ b3.out | refine zS ?_ b5.out | refine zS ?_ b9.out | refine zS ?_ d1.out) | exact HB.out)) hb)
   have n5_ := aM (hbox)
   have n6_ := aM ((by rw [hg]; exact (below_size (by repeat (first | (with_reducible first | exact HB.out | apply zA | apply zN | apply zD | refine zS ?_ b3.out | refine zS ?_ b5.out | refine zS ?_ b9.out | refine zS ?_ d1.out) | exact HB.out))) : w.heap.size ≤ u))
   have n7_ := aM ((by rw [hg]; exact (below_size (by repeat (first | (with_reducible first | exact HB.out | apply zA | apply zN | apply zD | refine zS ?_ b3.out | refine zS ?_ b5.out | refine zS ?_ b9.out | refine zS ?_ d1.out) | exact HB.out))) : w.heap.size ≤ u))
   have n8_ := aM ((by rw [hg]; exact Nat.ne_of_lt (blk_lt (g := d) (o := .cells #[.int .i64 P, .int .i64 R, .int .i64 U, .int .i64 V, .int .i64 X, .bool Y] 40 (0, 0)) (by (with_reducible repeat (first | apply bN | apply bD | apply bA)); exact c.out)) : d ≠ u))
   have n9_ := aM ((by rw [hg]; exact Nat.ne_of_gt (blk_lt (g := d) (o := .cells #[.int .i64 P, .int .i64 R, .int .i64 U, .int .i64 V, .int .i64 X, .bool Y] 40 (0, 0)) (by (with_reducible repeat (first | apply bN | apply bD | apply bA)); exact c.out)) : u ≠ d))
   have n10_ := aM ((by rw [hg]; exact Nat.ne_of_lt (blk_lt (g := s) (o := .cells #[.int .i64 b1, .int .i64 b2] 93 (0, 0)) (by (with_reducible repeat (first | apply bN | apply bD | apply bA)); exact m.out)) : s ≠ u))
   have n11_ := aM ((by rw [hg]; exact Nat.ne_of_gt (blk_lt (g := s) (o := .cells #[.int .i64 b1, .int .i64 b2] 93 (0, 0)) (by (with_reducible repeat (first | apply bN | apply bD | apply bA)); exact m.out)) : u ≠ s))
   have n12_ := aM ((by rw [hg]; exact Nat.ne_of_lt (blk_lt (g := z) (o := .cells #[.int .i64 0, .int .i64 0] 93 (0, 0)) (by (with_reducible repeat (first | apply bN | apply bD | apply bA)); exact y.out)) : z ≠ u))
   have n13_ := aM ((by rw [hg]; exact Nat.ne_of_gt (blk_lt (g := z) (o := .cells #[.int .i64 0, .int .i64 0] 93 (0, 0)) (by (with_reducible repeat (first | apply bN | apply bD | apply bA)); exact y.out)) : u ≠ z))
   have n14_ := aM ((by rw [hg]; exact Nat.ne_of_lt (blk_lt (g := q) (o := .cells #[.int .i64 0, .int .i64 0] 93 (0, 0)) (by (with_reducible repeat (first | apply bN | apply bD | apply bA)); exact C.out)) : q ≠ u))
   have n15_ := aM ((by rw [hg]; exact Nat.ne_of_gt (blk_lt (g := q) (o := .cells #[.int .i64 0, .int .i64 0] 93 (0, 0)) (by (with_reducible repeat (first | apply bN | apply bD | apply bA)); exact C.out)) : u ≠ q))
   clear c
   clear m
   clear y
   clear C
   clear HB
   have c := n0_
   have m := n1_
   have y := n2_
   have C := n3_
   have HB := n4_
   have A := n5_
   have e7 := n6_
   have d2 := n7_
   have D := n8_
   have b6 := n9_
   have L := n10_
   have b7 := n11_
   have G := n12_
   have b0 := n13_
   have b4 := n14_
   have b8 := n15_
   clear n0_ n1_ n2_ n3_ n4_ n5_ n6_ n7_ n8_ n9_ n10_ n11_ n12_ n13_ n14_ n15_
   clear hb hbox hg
   refine hK.out _ _ ⟨(blk_cell c.out 0).trans rfl, (blk_cell c.out 1).trans rfl, (blk_cell c.out 2).trans rfl, (blk_cell c.out 3).trans rfl, (blk_cell c.out 4).trans rfl, (blk_cell c.out 5).trans rfl, (blk_cell m.out 0).trans rfl, (blk_cell m.out 1).trans rfl⟩ (fun hHeld => ?_)
   clear hK K
   refine norm_ (a' := ?_) ?_ ?_
   rotate_left
   ·show Act.put _ (some 10) _ = _
    simp only [Act.put, List.setIfInBounds_toArray, List.set_cons_zero, List.set_cons_succ, i64_w, i32_w]
    rfl
   exact norm_ (by first | (simp only [putAll, Act.put, List.setIfInBounds_toArray, List.set_cons_zero, List.set_cons_succ]; done) | (simp only [putAll, Act.put, List.setIfInBounds_toArray, List.set_cons_zero, List.set_cons_succ]; rfl)) (hJ3_8_10_11_12 (q, u) _ ⟨hHeld, (by (with_reducible repeat (first | apply bN | apply bD | apply bA)); exact c.out), (by (with_reducible repeat (first | apply bN | apply bD | apply bA)); exact m.out), (by (with_reducible repeat (first | apply bN | apply bD | apply bA)); exact y.out), (by (with_reducible repeat (first | apply bN | apply bD | apply bA)); exact C.out), (by (with_reducible repeat (first | apply bN | apply bD | apply bA)); exact A.out), e6.out, d1.out, E.out, c0.out, Z.out, d0.out, J.out, a9.out, b8.out, b4.out, e7.out, d2.out, D.out, b6.out, L.out, b7.out, G.out, b0.out, (by repeat (first | (with_reducible first | exact HB.out | apply zA | apply zN | apply zD | refine zS ?_ b3.out | refine zS ?_ b5.out | refine zS ?_ b9.out | refine zS ?_ d1.out | refine zS ?_ d2.out) | exact HB.out))⟩)
 rintro ⟨q, u⟩ w16 ⟨hS_, h0_, h1_, h2_, h3_, h4_, h5_, h6_, h7_, h8_, h9_, h10_, h11_, h12_, h13_, h14_, h15_, h16_, h17_, h18_, h19_, h20_, h21_, h22_, h23_⟩
 have n0_ : Aside0 (w16.heap[d]? = some (.cells #[.int .i64 P, .int .i64 R, .int .i64 U, .int .i64 V, .int .i64 X, .bool Y] 40 (0, 0))) := ⟨h0_⟩
 have n1_ : Aside0 (w16.heap[s]? = some (.cells #[.int .i64 b1, .int .i64 b2] 93 (0, 0))) := ⟨h1_⟩
 have n2_ : Aside0 (w16.heap[z]? = some (.cells #[.int .i64 0, .int .i64 0] 93 (0, 0))) := ⟨h2_⟩
 have n3_ : Aside0 (w16.heap[q]? = some (.cells #[.int .i64 0, .int .i64 0] 93 (0, 0))) := ⟨h3_⟩
 have n4_ : Aside0 (w16.heap[u]? = some (.cells #[.int .i64 0, .int .i64 0] 93 (0, 0))) := ⟨h4_⟩
 have n5_ : Aside0 (w.heap.size ≤ q) := ⟨h5_⟩
 have n6_ : Aside0 (w.heap.size ≤ q) := ⟨h6_⟩
 have n7_ : Aside0 (d ≠ q) := ⟨h7_⟩
 have n8_ : Aside0 (q ≠ d) := ⟨h8_⟩
 have n9_ : Aside0 (s ≠ q) := ⟨h9_⟩
 have n10_ : Aside0 (q ≠ s) := ⟨h10_⟩
 have n11_ : Aside0 (z ≠ q) := ⟨h11_⟩
 have n12_ : Aside0 (q ≠ z) := ⟨h12_⟩
 have n13_ : Aside0 (u ≠ q) := ⟨h13_⟩
 have n14_ : Aside0 (q ≠ u) := ⟨h14_⟩
 have n15_ : Aside0 (w.heap.size ≤ u) := ⟨h15_⟩
 have n16_ : Aside0 (w.heap.size ≤ u) := ⟨h16_⟩
 have n17_ : Aside0 (d ≠ u) := ⟨h17_⟩
 have n18_ : Aside0 (u ≠ d) := ⟨h18_⟩
 have n19_ : Aside0 (s ≠ u) := ⟨h19_⟩
 have n20_ : Aside0 (u ≠ s) := ⟨h20_⟩
 have n21_ : Aside0 (z ≠ u) := ⟨h21_⟩
 have n22_ : Aside0 (u ≠ z) := ⟨h22_⟩
 have n23_ : Aside0 (Below w.heap.size w w16) := ⟨h23_⟩
 clear c
 clear m
 clear y
 clear HB
 clear h0_ h1_ h2_ h3_ h4_ h5_ h6_ h7_ h8_ h9_ h10_ h11_ h12_ h13_ h14_ h15_ h16_ h17_ h18_ h19_ h20_ h21_ h22_ h23_
 have c := n0_
 have m := n1_
 have y := n2_
 have C := n3_
 have A := n4_
 have e6 := n5_
 have d1 := n6_
 have E := n7_
 have c0 := n8_
 have Z := n9_
 have d0 := n10_
 have J := n11_
 have a9 := n12_
 have b8 := n13_
 have b4 := n14_
 have e7 := n15_
 have d2 := n16_
 have D := n17_
 have b6 := n18_
 have L := n19_
 have b7 := n20_
 have G := n21_
 have b0 := n22_
 have HB := n23_
 clear n0_ n1_ n2_ n3_ n4_ n5_ n6_ n7_ n8_ n9_ n10_ n11_ n12_ n13_ n14_ n15_ n16_ n17_ n18_ n19_ n20_ n21_ n22_ n23_
 have hHeld : w16.cell? ⟨d, 0, none⟩ = some (.int .i64 P) ∧ w16.cell? ⟨d, 1, none⟩ = some (.int .i64 R) ∧ w16.cell? ⟨d, 2, none⟩ = some (.int .i64 U) ∧ w16.cell? ⟨d, 3, none⟩ = some (.int .i64 V) ∧ w16.cell? ⟨d, 4, none⟩ = some (.int .i64 X) ∧ w16.cell? ⟨d, 5, none⟩ = some (.bool Y) ∧ w16.cell? ⟨s, 0, none⟩ = some (.int .i64 b1) ∧ w16.cell? ⟨s, 1, none⟩ = some (.int .i64 b2) := hS_
 refine norm_ (a' := ?_) ?_ ?_
 rotate_left
 ·simp only [putAll, Act.put, List.setIfInBounds_toArray, List.set_cons_zero, List.set_cons_succ]
  rfl
 refine one_ (i := 13) (N := none) #[true, true, true, true, true, true, true, true, true, true, true, true, true, true, false] rfl rfl (one_of HT_.out (by kernel_rfl)) (by decide) (fun K hK => ?_)
 have hs17 : w16.cell? ⟨q, 0, none⟩ = some (.int .i64 0) := (blk_cell C.out 0).trans rfl
 have hfs17 := blk_frozen C.out 0
 have hns17_0 := E.out
 have hns17_1 := Z.out
 have hns17_2 := J.out
 have hns17_4 := b8.out
 have hms17_0 := c0.out
 have hms17_1 := d0.out
 have hms17_2 := a9.out
 have hms17_4 := b4.out
 have hs18 : w16.cell? ⟨q, 1, none⟩ = some (.int .i64 0) := (blk_cell C.out 1).trans rfl
 have hfs18 := blk_frozen C.out 1
 have hns18_0 := E.out
 have hns18_1 := Z.out
 have hns18_2 := J.out
 have hns18_4 := b8.out
 have hms18_0 := c0.out
 have hms18_1 := d0.out
 have hms18_2 := a9.out
 have hms18_4 := b4.out
 refine skip_ (w1 := ?_) (by rfl) rfl ?_ ?_
 rotate_left
 ·go_simp
  rfl
 refine hK.out _ _ ⟨((cell_far (p := ⟨q, _, none⟩) E.out _).trans (((cell_far (p := ⟨q, _, none⟩) E.out _).trans (hHeld.1)))), ((cell_far (p := ⟨q, _, none⟩) E.out _).trans (((cell_far (p := ⟨q, _, none⟩) E.out _).trans (hHeld.2.1)))), ((cell_far (p := ⟨q, _, none⟩) E.out _).trans (((cell_far (p := ⟨q, _, none⟩) E.out _).trans (hHeld.2.2.1)))), ((cell_far (p := ⟨q, _, none⟩) E.out _).trans (((cell_far (p := ⟨q, _, none⟩) E.out _).trans (hHeld.2.2.2.1)))), ((cell_far (p := ⟨q, _, none⟩) E.out _).trans (((cell_far (p := ⟨q, _, none⟩) E.out _).trans (hHeld.2.2.2.2.1)))), ((cell_far (p := ⟨q, _, none⟩) E.out _).trans (((cell_far (p := ⟨q, _, none⟩) E.out _).trans (hHeld.2.2.2.2.2.1)))), ((cell_far (p := ⟨q, _, none⟩) Z.out _).trans (((cell_far (p := ⟨q, _, none⟩) Z.out _).trans (hHeld.2.2.2.2.2.2.1)))), ((cell_far (p := ⟨q, _, none⟩) Z.out _).trans (((cell_far (p := ⟨q, _, none⟩) Z.out _).trans (hHeld.2.2.2.2.2.2.2))))⟩ (fun hHeld => ?_)
 clear hK K
 refine one_ (i := 14) (N := none) #[true, true, true, true, true, true, true, true, true, true, true, true, true, true, true] rfl rfl (one_of HT_.out (by kernel_rfl)) (by decide) (fun K hK => ?_)
 have hs19 : w16.cell? ⟨u, 0, none⟩ = some (.int .i64 0) := (blk_cell A.out 0).trans rfl
 have hfs19 := blk_frozen A.out 0
 have hns19_0 := D.out
 have hns19_1 := L.out
 have hns19_2 := G.out
 have hns19_3 := b4.out
 have hms19_0 := b6.out
 have hms19_1 := b7.out
 have hms19_2 := b0.out
 have hms19_3 := b8.out
 have hs20 : w16.cell? ⟨u, 1, none⟩ = some (.int .i64 0) := (blk_cell A.out 1).trans rfl
 have hfs20 := blk_frozen A.out 1
 have hns20_0 := D.out
 have hns20_1 := L.out
 have hns20_2 := G.out
 have hns20_3 := b4.out
 have hms20_0 := b6.out
 have hms20_1 := b7.out
 have hms20_2 := b0.out
 have hms20_3 := b8.out
 refine skip_ (w1 := ?_) (by rfl) rfl ?_ ?_
 rotate_left
 ·go_simp
  rfl
 refine hK.out _ _ ⟨((cell_far (p := ⟨u, _, none⟩) D.out _).trans (((cell_far (p := ⟨u, _, none⟩) D.out _).trans (hHeld.1)))), ((cell_far (p := ⟨u, _, none⟩) D.out _).trans (((cell_far (p := ⟨u, _, none⟩) D.out _).trans (hHeld.2.1)))), ((cell_far (p := ⟨u, _, none⟩) D.out _).trans (((cell_far (p := ⟨u, _, none⟩) D.out _).trans (hHeld.2.2.1)))), ((cell_far (p := ⟨u, _, none⟩) D.out _).trans (((cell_far (p := ⟨u, _, none⟩) D.out _).trans (hHeld.2.2.2.1)))), ((cell_far (p := ⟨u, _, none⟩) D.out _).trans (((cell_far (p := ⟨u, _, none⟩) D.out _).trans (hHeld.2.2.2.2.1)))), ((cell_far (p := ⟨u, _, none⟩) D.out _).trans (((cell_far (p := ⟨u, _, none⟩) D.out _).trans (hHeld.2.2.2.2.2.1)))), ((cell_far (p := ⟨u, _, none⟩) L.out _).trans (((cell_far (p := ⟨u, _, none⟩) L.out _).trans (hHeld.2.2.2.2.2.2.1)))), ((cell_far (p := ⟨u, _, none⟩) L.out _).trans (((cell_far (p := ⟨u, _, none⟩) L.out _).trans (hHeld.2.2.2.2.2.2.2))))⟩ (fun hHeld => ?_)
 clear hK K
 refine done_ (done_of HT_.out (by kernel_rfl)) ?_
 try go_wp2
 go_loopg [11] k (fun kq v11 w' => ∃ (x11_1 : Int) (e5 : Int) (e2 : Int) (e3 : Int) (e0 : Int) (d8 : Int) (d6 : Int), v11 = .int .i64 x11_1 ∧ Aside0 (spec_sdMeet.l0 kq a2 x11_1 P R U V X Y b1 b2 e3 e0 d8 d6 = some (r1, r2, r3, r4)) ∧ Aside0 (kq ≤ k) ∧ Aside0 (w'.heap[d]? = some (.cells #[.int .i64 P, .int .i64 R, .int .i64 U, .int .i64 V, .int .i64 X, .bool Y] 40 (0, 0))) ∧ Aside0 (w'.heap[s]? = some (.cells #[.int .i64 b1, .int .i64 b2] 93 (0, 0))) ∧ Aside0 (w'.heap[z]? = some (.cells #[.int .i64 e5, .int .i64 e2] 93 (0, 0))) ∧ Aside0 (w'.heap[q]? = some (.cells #[.int .i64 e3, .int .i64 e0] 93 (0, 0))) ∧ Aside0 (w'.heap[u]? = some (.cells #[.int .i64 d8, .int .i64 d6] 93 (0, 0))) ∧ Aside0 (Below w.heap.size w w'))
 case atStart => exact ⟨(1), (0), (0), (f3), (f6), (g1), (g2), (by first | rfl | (simp [*]; done)), H', ⟨Nat.le_refl _⟩, ⟨by (with_reducible repeat (first | apply bN | apply bD | apply bA)); refine blk_far ?_ D.out _; (with_reducible repeat (first | apply bN | apply bD | apply bA)); refine blk_far ?_ D.out _; (with_reducible repeat (first | apply bN | apply bD | apply bA)); refine blk_far ?_ E.out _; (with_reducible repeat (first | apply bN | apply bD | apply bA)); refine blk_far ?_ E.out _; (with_reducible repeat (first | apply bN | apply bD | apply bA)); exact c.out⟩, ⟨by (with_reducible repeat (first | apply bN | apply bD | apply bA)); refine blk_far ?_ L.out _; (with_reducible repeat (first | apply bN | apply bD | apply bA)); refine blk_far ?_ L.out _; (with_reducible repeat (first | apply bN | apply bD | apply bA)); refine blk_far ?_ Z.out _; (with_reducible repeat (first | apply bN | apply bD | apply bA)); refine blk_far ?_ Z.out _; (with_reducible repeat (first | apply bN | apply bD | apply bA)); exact m.out⟩, ⟨by (with_reducible repeat (first | apply bN | apply bD | apply bA)); refine blk_far ?_ G.out _; (with_reducible repeat (first | apply bN | apply bD | apply bA)); refine blk_far ?_ G.out _; (with_reducible repeat (first | apply bN | apply bD | apply bA)); refine blk_far ?_ J.out _; (with_reducible repeat (first | apply bN | apply bD | apply bA)); refine blk_far ?_ J.out _; (with_reducible repeat (first | apply bN | apply bD | apply bA)); exact y.out⟩, ⟨by (with_reducible repeat (first | apply bN | apply bD | apply bA)); refine blk_far ?_ b4.out _; (with_reducible repeat (first | apply bN | apply bD | apply bA)); refine blk_far ?_ b4.out _; (with_reducible repeat (first | apply bN | apply bD | apply bA)); refine blk_put (cs := #[.int .i64 f3, .int .i64 0]) ?_ 1 _ rfl; (with_reducible repeat (first | apply bN | apply bD | apply bA)); refine blk_put (cs := #[.int .i64 0, .int .i64 0]) ?_ 0 _ rfl; (with_reducible repeat (first | apply bN | apply bD | apply bA)); exact C.out⟩, ⟨by (with_reducible repeat (first | apply bN | apply bD | apply bA)); refine blk_put (cs := #[.int .i64 g1, .int .i64 0]) ?_ 1 _ rfl; (with_reducible repeat (first | apply bN | apply bD | apply bA)); refine blk_put (cs := #[.int .i64 0, .int .i64 0]) ?_ 0 _ rfl; (with_reducible repeat (first | apply bN | apply bD | apply bA)); refine blk_far ?_ b8.out _; (with_reducible repeat (first | apply bN | apply bD | apply bA)); refine blk_far ?_ b8.out _; (with_reducible repeat (first | apply bN | apply bD | apply bA)); exact A.out⟩, ⟨by repeat (first | (with_reducible first | exact HB.out | apply zA | apply zN | apply zD | refine zS ?_ b3.out | refine zS ?_ b5.out | refine zS ?_ b9.out | refine zS ?_ d1.out | refine zS ?_ d2.out) | exact HB.out)⟩⟩
 case round =>
  clear H'
  try clear c1
  try clear p2
  try clear c12
  obtain ⟨x11_1, e5, e2, e3, e0, d8, d6, rfl, HA, HK1, c, m, y, C, A, HB⟩ := hrel
  cases gk with
  | zero => exact absurd HA.out (by simp [spec_sdMeet.l0])
  | succ k1 =>
   have H := HA.out
   clear HA
   simp only [spec_sdMeet.l0] at H
   by_cases c21 : (!(e3 == d8) || (!(e0 == d6))) = true
   ·rw [if_pos c21] at H
    have c21b0 : (!(e3 == d8) || (!(e0 == d6))) = true := c21
    clear c21
    by_cases c22 : x11_1 > 40000
    ·rw [if_pos c22] at H
     have c22b0 : decide (40000 < x11_1) = true := decide_eq_true c22
     clear c22
     simp only [Option.some.injEq, Prod.mk.injEq] at H
     obtain ⟨rfl, rfl, rfl, rfl⟩ := H
     have hnb23 := c0.out
     have hnc23 := E.out
     have hnb24 := d0.out
     have hnc24 := Z.out
     have hnb25 := a9.out
     have hnc25 := J.out
     have hnb26 := b4.out
     have hnc26 := b8.out
     have hcz27_0 : wr.cell? ⟨q, 0, none⟩ = some (.int .i64 e3) := (blk_cell C.out 0).trans rfl
     have hcz27_1 : wr.cell? ⟨q, 1, none⟩ = some (.int .i64 e0) := (blk_cell C.out 1).trans rfl
     have hfz27_0 := blk_frozen C.out 0
     have hfz27_1 := blk_frozen C.out 1
     have hnb28 := b6.out
     have hnc28 := D.out
     have hnb29 := b7.out
     have hnc29 := L.out
     have hnb30 := b0.out
     have hnc30 := G.out
     have hcz31_0 : wr.cell? ⟨u, 0, none⟩ = some (.int .i64 d8) := (blk_cell A.out 0).trans rfl
     have hcz31_1 : wr.cell? ⟨u, 1, none⟩ = some (.int .i64 d6) := (blk_cell A.out 1).trans rfl
     have hfz31_0 := blk_frozen A.out 0
     have hfz31_1 := blk_frozen A.out 1
     try go_wp2
     have n0_ := aM (bD c.out)
     have n1_ := aM (bD m.out)
     have n2_ := aM (bD y.out)
     have n3_ := aM (bD C.out)
     have n4_ := aM (bD A.out)
     have n5_ := aM (zD HB.out)
     clear c
     clear m
     clear y
     clear C
     clear A
     clear HB
     have c := n0_
     have m := n1_
     have y := n2_
     have C := n3_
     have A := n4_
     have HB := n5_
     clear n0_ n1_ n2_ n3_ n4_ n5_
     refine start_ (n := 4) (S := fun w' => w'.cell? ⟨s, 0, none⟩ = some (.int .i64 b1) ∧ w'.cell? ⟨s, 1, none⟩ = some (.int .i64 b2)) (ds := []) #[false, false, false, false] (by kernel_rfl) rfl rfl ⟨(blk_cell m.out 0).trans rfl, (blk_cell m.out 1).trans rfl⟩ (fun hHeld => ?_)
     generalize wr.drew = w32 at c m y C A HB hHeld ⊢
     refine pure_ (i := 1) (N := some 6) (v := ?_) (a' := ?_) #[false, true, false, false] rfl rfl (by kernel_rfl) (fun _ _ _ h => h) (Or.inl ⟨by rfl, ?_⟩) ?_ ?_
     rotate_left
     ·intro w'
      go_simp
      with_reducible rfl
     rotate_left
     ·simp only [Act.put, List.setIfInBounds_toArray, List.set_cons_zero, List.set_cons_succ, i64_w, i32_w]
      rfl
     refine take_ (i := 0) (N := some 32) (v := ?_) (a' := ?_) #[true, true, false, false] rfl rfl (by kernel_rfl) (fun _ _ _ h => h) (Or.inl ⟨by rfl, ?_⟩) hHeld ?_ ?_
     rotate_left
     ·rintro w' ⟨s0, s1⟩
      go_simp
      with_reducible rfl
     rotate_left
     ·simp only [Act.put, List.setIfInBounds_toArray, List.set_cons_zero, List.set_cons_succ, i64_w, i32_w]
      rfl
     refine one_ (i := 2) (N := none) #[true, true, true, false] rfl rfl (by kernel_rfl) (by decide) (fun K hK => ?_)
     have hs33 : w32.cell? ⟨z, 0, none⟩ = some (.int .i64 e5) := (blk_cell y.out 0).trans rfl
     have hfs33 := blk_frozen y.out 0
     have hns33_0 := e9.out
     have hns33_1 := d5.out
     have hns33_3 := a9.out
     have hns33_4 := b0.out
     have hms33_0 := f0.out
     have hms33_1 := f2.out
     have hms33_3 := J.out
     have hms33_4 := G.out
     have hs34 : w32.cell? ⟨z, 1, none⟩ = some (.int .i64 e2) := (blk_cell y.out 1).trans rfl
     have hfs34 := blk_frozen y.out 1
     have hns34_0 := e9.out
     have hns34_1 := d5.out
     have hns34_3 := a9.out
     have hns34_4 := b0.out
     have hms34_0 := f0.out
     have hms34_1 := f2.out
     have hms34_3 := J.out
     have hms34_4 := G.out
     refine skip_ (w1 := ?_) (by rfl) rfl ?_ ?_
     rotate_left
     ·go_simp
      rfl
     refine hK.out _ _ ⟨((cell_far (p := ⟨z, _, none⟩) d5.out _).trans (((cell_far (p := ⟨z, _, none⟩) d5.out _).trans (hHeld.1)))), ((cell_far (p := ⟨z, _, none⟩) d5.out _).trans (((cell_far (p := ⟨z, _, none⟩) d5.out _).trans (hHeld.2))))⟩ (fun hHeld => ?_)
     clear hK K
     refine pure_ (i := 3) (N := some 8) (v := ?_) (a' := ?_) #[true, true, true, true] rfl rfl (by kernel_rfl) (fun _ _ _ h => h) (Or.inl ⟨by rfl, ?_⟩) ?_ ?_
     rotate_left
     ·intro w'
      go_simp
      with_reducible rfl
     rotate_left
     ·simp only [Act.put, List.setIfInBounds_toArray, List.set_cons_zero, List.set_cons_succ, i64_w, i32_w]
      rfl
     refine done_ (by kernel_rfl) ?_
     try go_wp2
     refine bodyPost_ret (results_list (rs := [.tmp 6, .cell 7 93, .tmp 8]) rfl (by simp) (.tmp (.cell z 93 #[.int .i64 b1, .int .i64 b2] (0, 0) _ rfl (by (with_reducible repeat (first | apply bN | apply bD | apply bA)); refine blk_put (cs := #[.int .i64 b1, .int .i64 e2]) ?_ 1 _ rfl; (with_reducible repeat (first | apply bN | apply bD | apply bA)); refine blk_put (cs := #[.int .i64 e5, .int .i64 e2]) ?_ 0 _ rfl; (with_reducible repeat (first | apply bN | apply bD | apply bA)); exact y.out) Try.underlying93 rfl (by kernel_rfl) (.tmp .nil)))) rfl ?_
     exact ⟨by first | rfl | (simp [*] <;> rfl), by repeat (first | (with_reducible first | exact HB.out | apply zA | apply zN | apply zD | refine zS ?_ b3.out | refine zS ?_ b5.out | refine zS ?_ b9.out | refine zS ?_ d1.out | refine zS ?_ d2.out) | exact HB.out)⟩
    ·rw [if_neg c22] at H
     have c22b0 : decide (40000 < x11_1) = false := decide_eq_false c22
     clear c22
     replace H := Option.bind_eq_some_iff.mp H
     obtain ⟨⟨f9, g0⟩, A350, H⟩ := H
     replace H : ((spec_sdNext.f k1 P R U V X Y d8 d6 a2).bind fun bt163 => ((spec_sdNext.f k1 P R U V X Y bt163.1 bt163.2 a2).bind fun bt165 => (spec_sdMeet.l0 k1 a2 (wrap64 (x11_1 + 1)) P R U V X Y b1 b2 f9 g0 bt165.1 bt165.2))) = some (r1, r2, r3, r4) := H
     have A35 := aM A350
     clear A350
     replace H := Option.bind_eq_some_iff.mp H
     obtain ⟨⟨g5, g6⟩, A360, H⟩ := H
     replace H : ((spec_sdNext.f k1 P R U V X Y g5 g6 a2).bind fun bt165 => (spec_sdMeet.l0 k1 a2 (wrap64 (x11_1 + 1)) P R U V X Y b1 b2 f9 g0 bt165.1 bt165.2)) = some (r1, r2, r3, r4) := H
     have A36 := aM A360
     clear A360
     replace H := Option.bind_eq_some_iff.mp H
     obtain ⟨⟨g7, h1⟩, A370, H⟩ := H
     replace H : (spec_sdMeet.l0 k1 a2 (wrap64 (x11_1 + 1)) P R U V X Y b1 b2 f9 g0 g7 h1) = some (r1, r2, r3, r4) := H
     have A37 := aM A370
     clear A370
     have H' := aM H
     clear H
     have hnb38 := c0.out
     have hnc38 := E.out
     have hnb39 := d0.out
     have hnc39 := Z.out
     have hnb40 := a9.out
     have hnc40 := J.out
     have hnb41 := b4.out
     have hnc41 := b8.out
     have hcz42_0 : wr.cell? ⟨q, 0, none⟩ = some (.int .i64 e3) := (blk_cell C.out 0).trans rfl
     have hcz42_1 : wr.cell? ⟨q, 1, none⟩ = some (.int .i64 e0) := (blk_cell C.out 1).trans rfl
     have hfz42_0 := blk_frozen C.out 0
     have hfz42_1 := blk_frozen C.out 1
     have hnb43 := b6.out
     have hnc43 := D.out
     have hnb44 := b7.out
     have hnc44 := L.out
     have hnb45 := b0.out
     have hnc45 := G.out
     have hcz46_0 : wr.cell? ⟨u, 0, none⟩ = some (.int .i64 d8) := (blk_cell A.out 0).trans rfl
     have hcz46_1 : wr.cell? ⟨u, 1, none⟩ = some (.int .i64 d6) := (blk_cell A.out 1).trans rfl
     have hfz46_0 := blk_frozen A.out 0
     have hfz46_1 := blk_frozen A.out 1
     have hnb47 := f7.out
     have hnc47 := f8.out
     have hnb48 := e9.out
     have hnc48 := f0.out
     have hcz49_0 : wr.cell? ⟨d, 0, none⟩ = some (.int .i64 P) := (blk_cell c.out 0).trans rfl
     have hcz49_1 : wr.cell? ⟨d, 1, none⟩ = some (.int .i64 R) := (blk_cell c.out 1).trans rfl
     have hcz49_2 : wr.cell? ⟨d, 2, none⟩ = some (.int .i64 U) := (blk_cell c.out 2).trans rfl
     have hcz49_3 : wr.cell? ⟨d, 3, none⟩ = some (.int .i64 V) := (blk_cell c.out 3).trans rfl
     have hcz49_4 : wr.cell? ⟨d, 4, none⟩ = some (.int .i64 X) := (blk_cell c.out 4).trans rfl
     have hcz49_5 : wr.cell? ⟨d, 5, none⟩ = some (.bool Y) := (blk_cell c.out 5).trans rfl
     have hfz49_0 := blk_frozen c.out 0
     have hfz49_1 := blk_frozen c.out 1
     have hfz49_2 := blk_frozen c.out 2
     have hfz49_3 := blk_frozen c.out 3
     have hfz49_4 := blk_frozen c.out 4
     have hfz49_5 := blk_frozen c.out 5
     try go_wp2_with (first | ((with_reducible refine gate_callee (f := 121) rfl ?_); refine goesL_ (some 36) rfl rfl Try.func121 (by kernel_rfl) rfl #[.agg #[.int .i64 P, .int .i64 R, .int .i64 U, .int .i64 V, .int .i64 X, .bool Y], .agg #[.int .i64 e3, .int .i64 e0], .int .i64 a2] rfl (by (try simp only [List.map_toArray, List.map_cons, List.map_nil]); first | done | rfl) ?_; (with_reducible refine (spec_sdNext.calls k1 P R U V X Y e3 e0 a2 f9 g0 _ A35.out).mono ?_); rintro e w50 ⟨rfl, hb⟩; refine ⟨_, rfl, ?_⟩; have n0_ := aM (bB (g := d) (o := .cells #[.int .i64 P, .int .i64 R, .int .i64 U, .int .i64 V, .int .i64 X, .bool Y] 40 (0, 0)) (by (with_reducible repeat (first | apply bN | apply bD | apply bA)); exact c.out) hb); have n1_ := aM (bB (g := s) (o := .cells #[.int .i64 b1, .int .i64 b2] 93 (0, 0)) (by (with_reducible repeat (first | apply bN | apply bD | apply bA)); exact m.out) hb); have n2_ := aM (bB (g := z) (o := .cells #[.int .i64 e5, .int .i64 e2] 93 (0, 0)) (by (with_reducible repeat (first | apply bN | apply bD | apply bA)); exact y.out) hb); have n3_ := aM (bB (g := q) (o := .cells #[.int .i64 e3, .int .i64 e0] 93 (0, 0)) (by (with_reducible repeat (first | apply bN | apply bD | apply bA)); exact C.out) hb); have n4_ := aM (bB (g := u) (o := .cells #[.int .i64 d8, .int .i64 d6] 93 (0, 0)) (by (with_reducible repeat (first | apply bN | apply bD | apply bA)); exact A.out) hb); have n5_ := aM (below_step (by repeat (first | (with_reducible first | exact HB.out | apply zA | apply zN | apply zD | refine zS ?_ b3.out | refine zS ?_ b5.out | refine zS ?_ b9.out | refine zS ?_ d1.out | refine zS ?_ d2.out) | exact HB.out)) hb); clear c; clear m; clear y; clear C; clear A; clear HB; have c := n0_; have m := n1_; have y := n2_; have C := n3_; have A := n4_; have HB := n5_; clear n0_ n1_ n2_ n3_ n4_ n5_; (try clear hb); (try clear hb2); (try clear hk); (try clear hi); have hcz51_0 : w50.cell? ⟨q, 0, none⟩ = some (.int .i64 e3) := (blk_cell C.out 0).trans rfl; have hcz51_1 : w50.cell? ⟨q, 1, none⟩ = some (.int .i64 e0) := (blk_cell C.out 1).trans rfl; have hfz51_0 := blk_frozen C.out 0; have hfz51_1 := blk_frozen C.out 1))
     have n0_ : Aside0 (((w50.setCell ⟨q, 0, none⟩ (.int .i64 f9)).setCell ⟨q, 1, none⟩ (.int .i64 g0)).heap[d]? = some (.cells #[.int .i64 P, .int .i64 R, .int .i64 U, .int .i64 V, .int .i64 X, .bool Y] 40 (0, 0))) := ⟨by (with_reducible repeat (first | apply bN | apply bD | apply bA)); refine blk_far ?_ E.out _; (with_reducible repeat (first | apply bN | apply bD | apply bA)); refine blk_far ?_ E.out _; (with_reducible repeat (first | apply bN | apply bD | apply bA)); exact c.out⟩
     have n1_ : Aside0 (((w50.setCell ⟨q, 0, none⟩ (.int .i64 f9)).setCell ⟨q, 1, none⟩ (.int .i64 g0)).heap[s]? = some (.cells #[.int .i64 b1, .int .i64 b2] 93 (0, 0))) := ⟨by (with_reducible repeat (first | apply bN | apply bD | apply bA)); refine blk_far ?_ Z.out _; (with_reducible repeat (first | apply bN | apply bD | apply bA)); refine blk_far ?_ Z.out _; (with_reducible repeat (first | apply bN | apply bD | apply bA)); exact m.out⟩
     have n2_ : Aside0 (((w50.setCell ⟨q, 0, none⟩ (.int .i64 f9)).setCell ⟨q, 1, none⟩ (.int .i64 g0)).heap[z]? = some (.cells #[.int .i64 e5, .int .i64 e2] 93 (0, 0))) := ⟨by (with_reducible repeat (first | apply bN | apply bD | apply bA)); refine blk_far ?_ J.out _; (with_reducible repeat (first | apply bN | apply bD | apply bA)); refine blk_far ?_ J.out _; (with_reducible repeat (first | apply bN | apply bD | apply bA)); exact y.out⟩
     have n3_ : Aside0 (((w50.setCell ⟨q, 0, none⟩ (.int .i64 f9)).setCell ⟨q, 1, none⟩ (.int .i64 g0)).heap[q]? = some (.cells #[.int .i64 f9, .int .i64 g0] 93 (0, 0))) := ⟨by (with_reducible repeat (first | apply bN | apply bD | apply bA)); refine blk_put (cs := #[.int .i64 f9, .int .i64 e0]) ?_ 1 _ rfl; (with_reducible repeat (first | apply bN | apply bD | apply bA)); refine blk_put (cs := #[.int .i64 e3, .int .i64 e0]) ?_ 0 _ rfl; (with_reducible repeat (first | apply bN | apply bD | apply bA)); exact C.out⟩
     have n4_ : Aside0 (((w50.setCell ⟨q, 0, none⟩ (.int .i64 f9)).setCell ⟨q, 1, none⟩ (.int .i64 g0)).heap[u]? = some (.cells #[.int .i64 d8, .int .i64 d6] 93 (0, 0))) := ⟨by (with_reducible repeat (first | apply bN | apply bD | apply bA)); refine blk_far ?_ b8.out _; (with_reducible repeat (first | apply bN | apply bD | apply bA)); refine blk_far ?_ b8.out _; (with_reducible repeat (first | apply bN | apply bD | apply bA)); exact A.out⟩
     have n5_ : Aside0 (Below w.heap.size w ((w50.setCell ⟨q, 0, none⟩ (.int .i64 f9)).setCell ⟨q, 1, none⟩ (.int .i64 g0))) := ⟨by repeat (first | (with_reducible first | exact HB.out | apply zA | apply zN | apply zD | refine zS ?_ b3.out | refine zS ?_ b5.out | refine zS ?_ b9.out | refine zS ?_ d1.out | refine zS ?_ d2.out) | exact HB.out)⟩
     (try clear c)
     (try clear m)
     (try clear y)
     (try clear C)
     (try clear A)
     (try clear HB)
     generalize ((w50.setCell ⟨q, 0, none⟩ (.int .i64 f9)).setCell ⟨q, 1, none⟩ (.int .i64 g0)) = w52 at n0_ n1_ n2_ n3_ n4_ n5_ ⊢
     have c := n0_
     have m := n1_
     have y := n2_
     have C := n3_
     have A := n4_
     have HB := n5_
     clear n0_ n1_ n2_ n3_ n4_ n5_
     have n0_ := aM (bD c.out)
     have n1_ := aM (bD m.out)
     have n2_ := aM (bD y.out)
     have n3_ := aM (bD C.out)
     have n4_ := aM (bD A.out)
     have n5_ := aM (zD HB.out)
     clear c
     clear m
     clear y
     clear C
     clear A
     clear HB
     have c := n0_
     have m := n1_
     have y := n2_
     have C := n3_
     have A := n4_
     have HB := n5_
     clear n0_ n1_ n2_ n3_ n4_ n5_
     refine start_ (n := 8) (S := fun w' => w'.cell? ⟨d, 0, none⟩ = some (.int .i64 P) ∧ w'.cell? ⟨d, 1, none⟩ = some (.int .i64 R) ∧ w'.cell? ⟨d, 2, none⟩ = some (.int .i64 U) ∧ w'.cell? ⟨d, 3, none⟩ = some (.int .i64 V) ∧ w'.cell? ⟨d, 4, none⟩ = some (.int .i64 X) ∧ w'.cell? ⟨d, 5, none⟩ = some (.bool Y) ∧ w'.cell? ⟨u, 0, none⟩ = some (.int .i64 d8) ∧ w'.cell? ⟨u, 1, none⟩ = some (.int .i64 d6)) (ds := [7]) #[false, false, false, false, false, false, false, false] (by kernel_rfl) rfl rfl ⟨(blk_cell c.out 0).trans rfl, (blk_cell c.out 1).trans rfl, (blk_cell c.out 2).trans rfl, (blk_cell c.out 3).trans rfl, (blk_cell c.out 4).trans rfl, (blk_cell c.out 5).trans rfl, (blk_cell A.out 0).trans rfl, (blk_cell A.out 1).trans rfl⟩ (fun hHeld => ?_); refine with_tabW spec_sdMeet.tab8 spec_sdMeet.bits8 (fun HT_ HW_ => ?_)
     generalize w52.drew = w53 at c m y C A HB hHeld ⊢
     refine pure_ (i := 3) (N := some 40) (v := ?_) (a' := ?_) #[false, false, false, true, false, false, false, false] rfl rfl (any_of HT_.out (by kernel_rfl)) (fun _ _ _ h => h) (Or.inl ⟨by rfl, ?_⟩) ?_ ?_
     rotate_left
     ·intro w'
      go_simp
      with_reducible rfl
     rotate_left
     ·simp only [Act.put, List.setIfInBounds_toArray, List.set_cons_zero, List.set_cons_succ, i64_w, i32_w]
      rfl
     refine pure_ (i := 5) (N := some 42) (v := ?_) (a' := ?_) #[false, false, false, true, false, true, false, false] rfl rfl (any_of HT_.out (by kernel_rfl)) (fun _ _ _ h => h) (Or.inl ⟨by rfl, ?_⟩) ?_ ?_
     rotate_left
     ·intro w'
      go_simp
      with_reducible rfl
     rotate_left
     ·simp only [Act.put, List.setIfInBounds_toArray, List.set_cons_zero, List.set_cons_succ, i64_w, i32_w]
      rfl
     refine take_ (i := 0) (N := some 37) (v := ?_) (a' := ?_) #[true, false, false, true, false, true, false, false] rfl rfl (take_ofW HT_.out HW_.out (by kernel_rfl)) (fun _ _ _ h => h) (Or.inl ⟨by rfl, ?_⟩) hHeld ?_ ?_
     rotate_left
     ·rintro w' ⟨s0, s1, s2, s3, s4, s5, s6, s7⟩
      go_simp
      with_reducible rfl
     rotate_left
     ·simp only [Act.put, List.setIfInBounds_toArray, List.set_cons_zero, List.set_cons_succ, i64_w, i32_w]
      rfl
     refine take_ (i := 1) (N := some 38) (v := ?_) (a' := ?_) #[true, true, false, true, false, true, false, false] rfl rfl (take_ofW HT_.out HW_.out (by kernel_rfl)) (fun _ _ _ h => h) (Or.inl ⟨by rfl, ?_⟩) hHeld ?_ ?_
     rotate_left
     ·rintro w' ⟨s0, s1, s2, s3, s4, s5, s6, s7⟩
      go_simp
      with_reducible rfl
     rotate_left
     ·simp only [Act.put, List.setIfInBounds_toArray, List.set_cons_zero, List.set_cons_succ, i64_w, i32_w]
      rfl
     refine take_ (i := 2) (N := some 39) (v := ?_) (a' := ?_) #[true, true, true, true, false, true, false, false] rfl rfl (take_ofW HT_.out HW_.out (by kernel_rfl)) (fun _ _ _ h => h) (Or.inl ⟨by rfl, ?_⟩) hHeld ?_ ?_
     rotate_left
     ·rintro w' ⟨s0, s1, s2, s3, s4, s5, s6, s7⟩
      go_simp
      with_reducible rfl
     rotate_left
     ·simp only [Act.put, List.setIfInBounds_toArray, List.set_cons_zero, List.set_cons_succ, i64_w, i32_w]
      rfl
     refine one_ (i := 4) (N := some 41) #[true, true, true, true, true, true, false, false] rfl rfl (one_of HT_.out (by kernel_rfl)) (by decide) (fun K hK => ?_)
     refine goes_ Try.func121 (by kernel_rfl) rfl #[.agg #[.int .i64 P, .int .i64 R, .int .i64 U, .int .i64 V, .int .i64 X, .bool Y], .agg #[.int .i64 d8, .int .i64 d6], .int .i64 a2] (by rfl) rfl rfl (by (try simp only [List.map_toArray, List.map_cons, List.map_nil]); first | done | rfl) ?_
     with_reducible refine (spec_sdNext.calls k1 P R U V X Y d8 d6 a2 g5 g6 _ A36.out).mono ?_
     rintro e w54 ⟨rfl, hb⟩
     refine ⟨_, rfl, ?_⟩
     have n0_ := aM (bB (g := d) (o := .cells #[.int .i64 P, .int .i64 R, .int .i64 U, .int .i64 V, .int .i64 X, .bool Y] 40 (0, 0)) (by (with_reducible repeat (first | apply bN | apply bD | apply bA)); exact c.out) hb)
     have n1_ := aM (bB (g := s) (o := .cells #[.int .i64 b1, .int .i64 b2] 93 (0, 0)) (by (with_reducible repeat (first | apply bN | apply bD | apply bA)); exact m.out) hb)
     have n2_ := aM (bB (g := z) (o := .cells #[.int .i64 e5, .int .i64 e2] 93 (0, 0)) (by (with_reducible repeat (first | apply bN | apply bD | apply bA)); exact y.out) hb)
     have n3_ := aM (bB (g := q) (o := .cells #[.int .i64 f9, .int .i64 g0] 93 (0, 0)) (by (with_reducible repeat (first | apply bN | apply bD | apply bA)); exact C.out) hb)
     have n4_ := aM (bB (g := u) (o := .cells #[.int .i64 d8, .int .i64 d6] 93 (0, 0)) (by (with_reducible repeat (first | apply bN | apply bD | apply bA)); exact A.out) hb)
     have n5_ := aM (below_step (by repeat (first | (with_reducible first | exact HB.out | apply zA | apply zN | apply zD | refine zS ?_ b3.out | refine zS ?_ b5.out | refine zS ?_ b9.out | refine zS ?_ d1.out | refine zS ?_ d2.out) | exact HB.out)) hb)
     clear c
     clear m
     clear y
     clear C
     clear A
     clear HB
     have c := n0_
     have m := n1_
     have y := n2_
     have C := n3_
     have A := n4_
     have HB := n5_
     clear n0_ n1_ n2_ n3_ n4_ n5_
     (try clear hb)
     (try clear hb2)
     (try clear hk)
     (try clear hi)
     refine hK.out _ _ ⟨(blk_cell c.out 0).trans rfl, (blk_cell c.out 1).trans rfl, (blk_cell c.out 2).trans rfl, (blk_cell c.out 3).trans rfl, (blk_cell c.out 4).trans rfl, (blk_cell c.out 5).trans rfl, (blk_cell A.out 0).trans rfl, (blk_cell A.out 1).trans rfl⟩ (fun hHeld => ?_)
     clear hK K
     refine norm_ (a' := ?_) ?_ ?_
     rotate_left
     ·show Act.put _ (some 41) _ = _
      simp only [Act.put, List.setIfInBounds_toArray, List.set_cons_zero, List.set_cons_succ, i64_w, i32_w]
      rfl
     refine one_ (i := 6) (N := some 43) #[true, true, true, true, true, true, true, false] rfl rfl (one_of HT_.out (by kernel_rfl)) (by decide) (fun K hK => ?_)
     refine goes_ Try.func121 (by kernel_rfl) rfl #[.agg #[.int .i64 P, .int .i64 R, .int .i64 U, .int .i64 V, .int .i64 X, .bool Y], .agg #[.int .i64 g5, .int .i64 g6], .int .i64 a2] (by rfl) rfl rfl (by (try simp only [List.map_toArray, List.map_cons, List.map_nil]); first | done | rfl) ?_
     with_reducible refine (spec_sdNext.calls k1 P R U V X Y g5 g6 a2 g7 h1 _ A37.out).mono ?_
     rintro e w55 ⟨rfl, hb⟩
     refine ⟨_, rfl, ?_⟩
     have n0_ := aM (bB (g := d) (o := .cells #[.int .i64 P, .int .i64 R, .int .i64 U, .int .i64 V, .int .i64 X, .bool Y] 40 (0, 0)) (by (with_reducible repeat (first | apply bN | apply bD | apply bA)); exact c.out) hb)
     have n1_ := aM (bB (g := s) (o := .cells #[.int .i64 b1, .int .i64 b2] 93 (0, 0)) (by (with_reducible repeat (first | apply bN | apply bD | apply bA)); exact m.out) hb)
     have n2_ := aM (bB (g := z) (o := .cells #[.int .i64 e5, .int .i64 e2] 93 (0, 0)) (by (with_reducible repeat (first | apply bN | apply bD | apply bA)); exact y.out) hb)
     have n3_ := aM (bB (g := q) (o := .cells #[.int .i64 f9, .int .i64 g0] 93 (0, 0)) (by (with_reducible repeat (first | apply bN | apply bD | apply bA)); exact C.out) hb)
     have n4_ := aM (bB (g := u) (o := .cells #[.int .i64 d8, .int .i64 d6] 93 (0, 0)) (by (with_reducible repeat (first | apply bN | apply bD | apply bA)); exact A.out) hb)
     have n5_ := aM (below_step (by repeat (first | (with_reducible first | exact HB.out | apply zA | apply zN | apply zD | refine zS ?_ b3.out | refine zS ?_ b5.out | refine zS ?_ b9.out | refine zS ?_ d1.out | refine zS ?_ d2.out) | exact HB.out)) hb)
     clear c
     clear m
     clear y
     clear C
     clear A
     clear HB
     have c := n0_
     have m := n1_
     have y := n2_
     have C := n3_
     have A := n4_
     have HB := n5_
     clear n0_ n1_ n2_ n3_ n4_ n5_
     (try clear hb)
     (try clear hb2)
     (try clear hk)
     (try clear hi)
     refine hK.out _ _ ⟨(blk_cell c.out 0).trans rfl, (blk_cell c.out 1).trans rfl, (blk_cell c.out 2).trans rfl, (blk_cell c.out 3).trans rfl, (blk_cell c.out 4).trans rfl, (blk_cell c.out 5).trans rfl, (blk_cell A.out 0).trans rfl, (blk_cell A.out 1).trans rfl⟩ (fun hHeld => ?_)
     clear hK K
     refine norm_ (a' := ?_) ?_ ?_
     rotate_left
     ·show Act.put _ (some 43) _ = _
      simp only [Act.put, List.setIfInBounds_toArray, List.set_cons_zero, List.set_cons_succ, i64_w, i32_w]
      rfl
     refine last_ (i := 7) (N := none) #[true, true, true, true, true, true, true, true] rfl rfl (one_of HT_.out (by kernel_rfl)) (by decide) (fun K hK => ?_)
     have hs56 : w55.cell? ⟨u, 0, none⟩ = some (.int .i64 d8) := (blk_cell A.out 0).trans rfl
     have hfs56 := blk_frozen A.out 0
     have hns56_0 := D.out
     have hns56_1 := L.out
     have hns56_2 := G.out
     have hns56_3 := b4.out
     have hms56_0 := b6.out
     have hms56_1 := b7.out
     have hms56_2 := b0.out
     have hms56_3 := b8.out
     have hs57 : w55.cell? ⟨u, 1, none⟩ = some (.int .i64 d6) := (blk_cell A.out 1).trans rfl
     have hfs57 := blk_frozen A.out 1
     have hns57_0 := D.out
     have hns57_1 := L.out
     have hns57_2 := G.out
     have hns57_3 := b4.out
     have hms57_0 := b6.out
     have hms57_1 := b7.out
     have hms57_2 := b0.out
     have hms57_3 := b8.out
     refine skip_ (w1 := ?_) (by rfl) rfl ?_ ?_
     rotate_left
     ·go_simp
      rfl
     refine hK.out _ _ ?_
     clear hK K
     refine done_ (done_of HT_.out (by kernel_rfl)) ?_
     try go_wp2
     go_roundg k1
     case measure => have := HK1.out; omega
     case rel => exact ⟨(wrap64 (x11_1 + 1)), (e5), (e2), (f9), (g0), (g7), (h1), (by first | rfl | (simp [*]; done)), H', ⟨by have := HK1.out; omega⟩, ⟨by (with_reducible repeat (first | apply bN | apply bD | apply bA)); refine blk_far ?_ D.out _; (with_reducible repeat (first | apply bN | apply bD | apply bA)); refine blk_far ?_ D.out _; (with_reducible repeat (first | apply bN | apply bD | apply bA)); exact c.out⟩, ⟨by (with_reducible repeat (first | apply bN | apply bD | apply bA)); refine blk_far ?_ L.out _; (with_reducible repeat (first | apply bN | apply bD | apply bA)); refine blk_far ?_ L.out _; (with_reducible repeat (first | apply bN | apply bD | apply bA)); exact m.out⟩, ⟨by (with_reducible repeat (first | apply bN | apply bD | apply bA)); refine blk_far ?_ G.out _; (with_reducible repeat (first | apply bN | apply bD | apply bA)); refine blk_far ?_ G.out _; (with_reducible repeat (first | apply bN | apply bD | apply bA)); exact y.out⟩, ⟨by (with_reducible repeat (first | apply bN | apply bD | apply bA)); refine blk_far ?_ b4.out _; (with_reducible repeat (first | apply bN | apply bD | apply bA)); refine blk_far ?_ b4.out _; (with_reducible repeat (first | apply bN | apply bD | apply bA)); exact C.out⟩, ⟨by (with_reducible repeat (first | apply bN | apply bD | apply bA)); refine blk_put (cs := #[.int .i64 g7, .int .i64 d6]) ?_ 1 _ rfl; (with_reducible repeat (first | apply bN | apply bD | apply bA)); refine blk_put (cs := #[.int .i64 d8, .int .i64 d6]) ?_ 0 _ rfl; (with_reducible repeat (first | apply bN | apply bD | apply bA)); exact A.out⟩, ⟨by repeat (first | (with_reducible first | exact HB.out | apply zA | apply zN | apply zD | refine zS ?_ b3.out | refine zS ?_ b5.out | refine zS ?_ b9.out | refine zS ?_ d1.out | refine zS ?_ d2.out) | exact HB.out)⟩⟩
   ·rw [if_neg c21] at H
    have c21b0 : (!(e3 == d8) || (!(e0 == d6))) = false := by simpa using c21
    clear c21
    have H' := aM H
    clear H
    have hnb58 := c0.out
    have hnc58 := E.out
    have hnb59 := d0.out
    have hnc59 := Z.out
    have hnb60 := a9.out
    have hnc60 := J.out
    have hnb61 := b4.out
    have hnc61 := b8.out
    have hcz62_0 : wr.cell? ⟨q, 0, none⟩ = some (.int .i64 e3) := (blk_cell C.out 0).trans rfl
    have hcz62_1 : wr.cell? ⟨q, 1, none⟩ = some (.int .i64 e0) := (blk_cell C.out 1).trans rfl
    have hfz62_0 := blk_frozen C.out 0
    have hfz62_1 := blk_frozen C.out 1
    have hnb63 := b6.out
    have hnc63 := D.out
    have hnb64 := b7.out
    have hnc64 := L.out
    have hnb65 := b0.out
    have hnc65 := G.out
    have hcz66_0 : wr.cell? ⟨u, 0, none⟩ = some (.int .i64 d8) := (blk_cell A.out 0).trans rfl
    have hcz66_1 : wr.cell? ⟨u, 1, none⟩ = some (.int .i64 d6) := (blk_cell A.out 1).trans rfl
    have hfz66_0 := blk_frozen A.out 0
    have hfz66_1 := blk_frozen A.out 1
    have hnb67 := f8.out
    have hnc67 := f7.out
    have hnb68 := d5.out
    have hnc68 := f2.out
    have hcz69_0 : wr.cell? ⟨s, 0, none⟩ = some (.int .i64 b1) := (blk_cell m.out 0).trans rfl
    have hcz69_1 : wr.cell? ⟨s, 1, none⟩ = some (.int .i64 b2) := (blk_cell m.out 1).trans rfl
    have hfz69_0 := blk_frozen m.out 0
    have hfz69_1 := blk_frozen m.out 1
    go_wp2
    go_loopg [12] k1 (fun kq v12 w' => ∃ (x12_2 : Int) (d3 : Int) (d4 : Int) (d9 : Int) (d7 : Int), v12 = .int .i64 x12_2 ∧ Aside0 (spec_sdMeet.l1 kq a2 x12_2 P R U V X Y b1 b2 d3 d4 d9 d7 = some (r1, r2, r3, r4)) ∧ Aside0 (kq ≤ k1) ∧ Aside0 (w'.heap[d]? = some (.cells #[.int .i64 P, .int .i64 R, .int .i64 U, .int .i64 V, .int .i64 X, .bool Y] 40 (0, 0))) ∧ Aside0 (w'.heap[s]? = some (.cells #[.int .i64 b1, .int .i64 b2] 93 (0, 0))) ∧ Aside0 (w'.heap[z]? = some (.cells #[.int .i64 e5, .int .i64 e2] 93 (0, 0))) ∧ Aside0 (w'.heap[q]? = some (.cells #[.int .i64 d3, .int .i64 d4] 93 (0, 0))) ∧ Aside0 (w'.heap[u]? = some (.cells #[.int .i64 d9, .int .i64 d7] 93 (0, 0))) ∧ Aside0 (Below w.heap.size w w'))
    case atStart => exact ⟨(0), (b1), (b2), (d8), (d6), (by first | rfl | (simp [*]; done)), H', ⟨Nat.le_refl _⟩, ⟨by (with_reducible repeat (first | apply bN | apply bD | apply bA)); refine blk_far ?_ E.out _; (with_reducible repeat (first | apply bN | apply bD | apply bA)); refine blk_far ?_ E.out _; (with_reducible repeat (first | apply bN | apply bD | apply bA)); exact c.out⟩, ⟨by (with_reducible repeat (first | apply bN | apply bD | apply bA)); refine blk_far ?_ Z.out _; (with_reducible repeat (first | apply bN | apply bD | apply bA)); refine blk_far ?_ Z.out _; (with_reducible repeat (first | apply bN | apply bD | apply bA)); exact m.out⟩, ⟨by (with_reducible repeat (first | apply bN | apply bD | apply bA)); refine blk_far ?_ J.out _; (with_reducible repeat (first | apply bN | apply bD | apply bA)); refine blk_far ?_ J.out _; (with_reducible repeat (first | apply bN | apply bD | apply bA)); exact y.out⟩, ⟨by (with_reducible repeat (first | apply bN | apply bD | apply bA)); refine blk_put (cs := #[.int .i64 b1, .int .i64 e0]) ?_ 1 _ rfl; (with_reducible repeat (first | apply bN | apply bD | apply bA)); refine blk_put (cs := #[.int .i64 e3, .int .i64 e0]) ?_ 0 _ rfl; (with_reducible repeat (first | apply bN | apply bD | apply bA)); exact C.out⟩, ⟨by (with_reducible repeat (first | apply bN | apply bD | apply bA)); refine blk_far ?_ b8.out _; (with_reducible repeat (first | apply bN | apply bD | apply bA)); refine blk_far ?_ b8.out _; (with_reducible repeat (first | apply bN | apply bD | apply bA)); exact A.out⟩, ⟨by repeat (first | (with_reducible first | exact HB.out | apply zA | apply zN | apply zD | refine zS ?_ b3.out | refine zS ?_ b5.out | refine zS ?_ b9.out | refine zS ?_ d1.out | refine zS ?_ d2.out) | exact HB.out)⟩⟩
    case round =>
     clear H'
     try clear c1
     try clear c2
     try clear p2
     try clear c3
     try clear c4
     try clear c5
     try clear c6
     try clear p6
     try clear c12
     try clear c21
     try clear c21b0
     try clear c22
     try clear c22b0
     try clear c23
     try clear c24
     try clear c25
     try clear c26
     try clear c28
     try clear c29
     try clear c30
     try clear c38
     try clear c39
     try clear c40
     try clear c41
     try clear c43
     try clear c44
     try clear c45
     try clear c47
     try clear c48
     try clear c58
     try clear c59
     try clear c60
     try clear c61
     try clear c63
     try clear c64
     try clear p64
     try clear c65
     try clear c67
     try clear c68
     try clear hcz27_0
     try clear hcz27_1
     try clear hcz31_0
     try clear hcz31_1
     try clear hcz42_0
     try clear hcz42_1
     try clear hcz46_0
     try clear hcz46_1
     try clear hcz49_0
     try clear hcz49_1
     try clear hcz49_2
     try clear hcz49_3
     try clear hcz49_4
     try clear hcz49_5
     try clear hcz51_0
     try clear hcz51_1
     try clear hcz62_0
     try clear hcz62_1
     try clear hcz66_0
     try clear hcz66_1
     try clear hcz69_0
     try clear hcz69_1
     try clear hfz27_0
     try clear hfz27_1
     try clear hfz31_0
     try clear hfz31_1
     try clear hfz42_0
     try clear hfz42_1
     try clear hfz46_0
     try clear hfz46_1
     try clear hfz49_0
     try clear hfz49_1
     try clear hfz49_2
     try clear hfz49_3
     try clear hfz49_4
     try clear hfz49_5
     try clear hfz51_0
     try clear hfz51_1
     try clear hfz62_0
     try clear hfz62_1
     try clear hfz66_0
     try clear hfz66_1
     try clear hfz69_0
     try clear hfz69_1
     try clear p2
     obtain ⟨x12_2, d3, d4, d9, d7, rfl, HA, HK2, c, m, y, C, A, HB⟩ := hrel
     cases gk with
     | zero => exact absurd HA.out (by simp [spec_sdMeet.l1])
     | succ k2 =>
      have H := HA.out
      clear HA
      simp only [spec_sdMeet.l1] at H
      by_cases c70 : (!(d3 == d9) || (!(d4 == d7))) = true
      ·rw [if_pos c70] at H
       have c70b0 : (!(d3 == d9) || (!(d4 == d7))) = true := c70
       clear c70
       replace H := Option.bind_eq_some_iff.mp H
       obtain ⟨⟨g3, g4⟩, A710, H⟩ := H
       replace H : ((spec_sdNext.f k2 P R U V X Y d9 d7 a2).bind fun bt169 => (spec_sdMeet.l1 k2 a2 (wrap64 (x12_2 + 1)) P R U V X Y b1 b2 g3 g4 bt169.1 bt169.2)) = some (r1, r2, r3, r4) := H
       have A71 := aM A710
       clear A710
       replace H := Option.bind_eq_some_iff.mp H
       obtain ⟨⟨g8, h2⟩, A720, H⟩ := H
       replace H : (spec_sdMeet.l1 k2 a2 (wrap64 (x12_2 + 1)) P R U V X Y b1 b2 g3 g4 g8 h2) = some (r1, r2, r3, r4) := H
       have A72 := aM A720
       clear A720
       have H' := aM H
       clear H
       have hnb73 := c0.out
       have hnc73 := E.out
       have hnb74 := d0.out
       have hnc74 := Z.out
       have hnb75 := a9.out
       have hnc75 := J.out
       have hnb76 := b4.out
       have hnc76 := b8.out
       have hcz77_0 : wr.cell? ⟨q, 0, none⟩ = some (.int .i64 d3) := (blk_cell C.out 0).trans rfl
       have hcz77_1 : wr.cell? ⟨q, 1, none⟩ = some (.int .i64 d4) := (blk_cell C.out 1).trans rfl
       have hfz77_0 := blk_frozen C.out 0
       have hfz77_1 := blk_frozen C.out 1
       have hnb78 := b6.out
       have hnc78 := D.out
       have hnb79 := b7.out
       have hnc79 := L.out
       have hnb80 := b0.out
       have hnc80 := G.out
       have hcz81_0 : wr.cell? ⟨u, 0, none⟩ = some (.int .i64 d9) := (blk_cell A.out 0).trans rfl
       have hcz81_1 : wr.cell? ⟨u, 1, none⟩ = some (.int .i64 d7) := (blk_cell A.out 1).trans rfl
       have hfz81_0 := blk_frozen A.out 0
       have hfz81_1 := blk_frozen A.out 1
       have hnb82 := f7.out
       have hnc82 := f8.out
       have hnb83 := e9.out
       have hnc83 := f0.out
       have hcz84_0 : wr.cell? ⟨d, 0, none⟩ = some (.int .i64 P) := (blk_cell c.out 0).trans rfl
       have hcz84_1 : wr.cell? ⟨d, 1, none⟩ = some (.int .i64 R) := (blk_cell c.out 1).trans rfl
       have hcz84_2 : wr.cell? ⟨d, 2, none⟩ = some (.int .i64 U) := (blk_cell c.out 2).trans rfl
       have hcz84_3 : wr.cell? ⟨d, 3, none⟩ = some (.int .i64 V) := (blk_cell c.out 3).trans rfl
       have hcz84_4 : wr.cell? ⟨d, 4, none⟩ = some (.int .i64 X) := (blk_cell c.out 4).trans rfl
       have hcz84_5 : wr.cell? ⟨d, 5, none⟩ = some (.bool Y) := (blk_cell c.out 5).trans rfl
       have hfz84_0 := blk_frozen c.out 0
       have hfz84_1 := blk_frozen c.out 1
       have hfz84_2 := blk_frozen c.out 2
       have hfz84_3 := blk_frozen c.out 3
       have hfz84_4 := blk_frozen c.out 4
       have hfz84_5 := blk_frozen c.out 5
       go_wp2_with (first | ((with_reducible refine gate_callee (f := 121) rfl ?_); refine goesL_ (some 51) rfl rfl Try.func121 (by kernel_rfl) rfl #[.agg #[.int .i64 P, .int .i64 R, .int .i64 U, .int .i64 V, .int .i64 X, .bool Y], .agg #[.int .i64 d3, .int .i64 d4], .int .i64 a2] rfl (by (try simp only [List.map_toArray, List.map_cons, List.map_nil]); first | done | rfl) ?_; (with_reducible refine (spec_sdNext.calls k2 P R U V X Y d3 d4 a2 g3 g4 _ A71.out).mono ?_); rintro e w85 ⟨rfl, hb⟩; refine ⟨_, rfl, ?_⟩; have n0_ := aM (bB (g := d) (o := .cells #[.int .i64 P, .int .i64 R, .int .i64 U, .int .i64 V, .int .i64 X, .bool Y] 40 (0, 0)) (by (with_reducible repeat (first | apply bN | apply bD | apply bA)); exact c.out) hb); have n1_ := aM (bB (g := s) (o := .cells #[.int .i64 b1, .int .i64 b2] 93 (0, 0)) (by (with_reducible repeat (first | apply bN | apply bD | apply bA)); exact m.out) hb); have n2_ := aM (bB (g := z) (o := .cells #[.int .i64 e5, .int .i64 e2] 93 (0, 0)) (by (with_reducible repeat (first | apply bN | apply bD | apply bA)); exact y.out) hb); have n3_ := aM (bB (g := q) (o := .cells #[.int .i64 d3, .int .i64 d4] 93 (0, 0)) (by (with_reducible repeat (first | apply bN | apply bD | apply bA)); exact C.out) hb); have n4_ := aM (bB (g := u) (o := .cells #[.int .i64 d9, .int .i64 d7] 93 (0, 0)) (by (with_reducible repeat (first | apply bN | apply bD | apply bA)); exact A.out) hb); have n5_ := aM (below_step (by repeat (first | (with_reducible first | exact HB.out | apply zA | apply zN | apply zD | refine zS ?_ b3.out | refine zS ?_ b5.out | refine zS ?_ b9.out | refine zS ?_ d1.out | refine zS ?_ d2.out) | exact HB.out)) hb); clear c; clear m; clear y; clear C; clear A; clear HB; have c := n0_; have m := n1_; have y := n2_; have C := n3_; have A := n4_; have HB := n5_; clear n0_ n1_ n2_ n3_ n4_ n5_; (try clear hb); (try clear hb2); (try clear hk); (try clear hi); have hcz86_0 : w85.cell? ⟨q, 0, none⟩ = some (.int .i64 d3) := (blk_cell C.out 0).trans rfl; have hcz86_1 : w85.cell? ⟨q, 1, none⟩ = some (.int .i64 d4) := (blk_cell C.out 1).trans rfl; have hfz86_0 := blk_frozen C.out 0; have hfz86_1 := blk_frozen C.out 1; have hcz87_0 : w85.cell? ⟨d, 0, none⟩ = some (.int .i64 P) := (blk_cell c.out 0).trans rfl; have hcz87_1 : w85.cell? ⟨d, 1, none⟩ = some (.int .i64 R) := (blk_cell c.out 1).trans rfl; have hcz87_2 : w85.cell? ⟨d, 2, none⟩ = some (.int .i64 U) := (blk_cell c.out 2).trans rfl; have hcz87_3 : w85.cell? ⟨d, 3, none⟩ = some (.int .i64 V) := (blk_cell c.out 3).trans rfl; have hcz87_4 : w85.cell? ⟨d, 4, none⟩ = some (.int .i64 X) := (blk_cell c.out 4).trans rfl; have hcz87_5 : w85.cell? ⟨d, 5, none⟩ = some (.bool Y) := (blk_cell c.out 5).trans rfl; have hfz87_0 := blk_frozen c.out 0; have hfz87_1 := blk_frozen c.out 1; have hfz87_2 := blk_frozen c.out 2; have hfz87_3 := blk_frozen c.out 3; have hfz87_4 := blk_frozen c.out 4; have hfz87_5 := blk_frozen c.out 5; have hcz88_0 : w85.cell? ⟨u, 0, none⟩ = some (.int .i64 d9) := (blk_cell A.out 0).trans rfl; have hcz88_1 : w85.cell? ⟨u, 1, none⟩ = some (.int .i64 d7) := (blk_cell A.out 1).trans rfl; have hfz88_0 := blk_frozen A.out 0; have hfz88_1 := blk_frozen A.out 1) | ((with_reducible refine gate_callee (f := 121) rfl ?_); refine goesL_ (some 55) rfl rfl Try.func121 (by kernel_rfl) rfl #[.agg #[.int .i64 P, .int .i64 R, .int .i64 U, .int .i64 V, .int .i64 X, .bool Y], .agg #[.int .i64 d9, .int .i64 d7], .int .i64 a2] rfl (by (try simp only [List.map_toArray, List.map_cons, List.map_nil]); first | done | rfl) ?_; (with_reducible refine (spec_sdNext.calls k2 P R U V X Y d9 d7 a2 g8 h2 _ A72.out).mono ?_); rintro e w89 ⟨rfl, hb⟩; refine ⟨_, rfl, ?_⟩; have n0_ := aM (bB (g := d) (o := .cells #[.int .i64 P, .int .i64 R, .int .i64 U, .int .i64 V, .int .i64 X, .bool Y] 40 (0, 0)) (by (with_reducible repeat (first | apply bN | apply bD | apply bA)); refine blk_far ?_ E.out _; (with_reducible repeat (first | apply bN | apply bD | apply bA)); refine blk_far ?_ E.out _; (with_reducible repeat (first | apply bN | apply bD | apply bA)); exact c.out) hb); have n1_ := aM (bB (g := s) (o := .cells #[.int .i64 b1, .int .i64 b2] 93 (0, 0)) (by (with_reducible repeat (first | apply bN | apply bD | apply bA)); refine blk_far ?_ Z.out _; (with_reducible repeat (first | apply bN | apply bD | apply bA)); refine blk_far ?_ Z.out _; (with_reducible repeat (first | apply bN | apply bD | apply bA)); exact m.out) hb); have n2_ := aM (bB (g := z) (o := .cells #[.int .i64 e5, .int .i64 e2] 93 (0, 0)) (by (with_reducible repeat (first | apply bN | apply bD | apply bA)); refine blk_far ?_ J.out _; (with_reducible repeat (first | apply bN | apply bD | apply bA)); refine blk_far ?_ J.out _; (with_reducible repeat (first | apply bN | apply bD | apply bA)); exact y.out) hb); have n3_ := aM (bB (g := q) (o := .cells #[.int .i64 g3, .int .i64 g4] 93 (0, 0)) (by (with_reducible repeat (first | apply bN | apply bD | apply bA)); refine blk_put (cs := #[.int .i64 g3, .int .i64 d4]) ?_ 1 _ rfl; (with_reducible repeat (first | apply bN | apply bD | apply bA)); refine blk_put (cs := #[.int .i64 d3, .int .i64 d4]) ?_ 0 _ rfl; (with_reducible repeat (first | apply bN | apply bD | apply bA)); exact C.out) hb); have n4_ := aM (bB (g := u) (o := .cells #[.int .i64 d9, .int .i64 d7] 93 (0, 0)) (by (with_reducible repeat (first | apply bN | apply bD | apply bA)); refine blk_far ?_ b8.out _; (with_reducible repeat (first | apply bN | apply bD | apply bA)); refine blk_far ?_ b8.out _; (with_reducible repeat (first | apply bN | apply bD | apply bA)); exact A.out) hb); have n5_ := aM (below_step (by repeat (first | (with_reducible first | exact HB.out | apply zA | apply zN | apply zD | refine zS ?_ b3.out | refine zS ?_ b5.out | refine zS ?_ b9.out | refine zS ?_ d1.out | refine zS ?_ d2.out) | exact HB.out)) hb); clear c; clear m; clear y; clear C; clear A; clear HB; have c := n0_; have m := n1_; have y := n2_; have C := n3_; have A := n4_; have HB := n5_; clear n0_ n1_ n2_ n3_ n4_ n5_; (try clear hb); (try clear hb2); (try clear hk); (try clear hi); have hcz90_0 : w89.cell? ⟨u, 0, none⟩ = some (.int .i64 d9) := (blk_cell A.out 0).trans rfl; have hcz90_1 : w89.cell? ⟨u, 1, none⟩ = some (.int .i64 d7) := (blk_cell A.out 1).trans rfl; have hfz90_0 := blk_frozen A.out 0; have hfz90_1 := blk_frozen A.out 1))
       go_roundg k2
       case measure => have := HK1.out; have := HK2.out; omega
       case rel => exact ⟨(wrap64 (x12_2 + 1)), (g3), (g4), (g8), (h2), (by first | rfl | (simp [*]; done)), H', ⟨by have := HK1.out; have := HK2.out; omega⟩, ⟨by (with_reducible repeat (first | apply bN | apply bD | apply bA)); refine blk_far ?_ D.out _; (with_reducible repeat (first | apply bN | apply bD | apply bA)); refine blk_far ?_ D.out _; (with_reducible repeat (first | apply bN | apply bD | apply bA)); exact c.out⟩, ⟨by (with_reducible repeat (first | apply bN | apply bD | apply bA)); refine blk_far ?_ L.out _; (with_reducible repeat (first | apply bN | apply bD | apply bA)); refine blk_far ?_ L.out _; (with_reducible repeat (first | apply bN | apply bD | apply bA)); exact m.out⟩, ⟨by (with_reducible repeat (first | apply bN | apply bD | apply bA)); refine blk_far ?_ G.out _; (with_reducible repeat (first | apply bN | apply bD | apply bA)); refine blk_far ?_ G.out _; (with_reducible repeat (first | apply bN | apply bD | apply bA)); exact y.out⟩, ⟨by (with_reducible repeat (first | apply bN | apply bD | apply bA)); refine blk_far ?_ b4.out _; (with_reducible repeat (first | apply bN | apply bD | apply bA)); refine blk_far ?_ b4.out _; (with_reducible repeat (first | apply bN | apply bD | apply bA)); exact C.out⟩, ⟨by (with_reducible repeat (first | apply bN | apply bD | apply bA)); refine blk_put (cs := #[.int .i64 g8, .int .i64 d7]) ?_ 1 _ rfl; (with_reducible repeat (first | apply bN | apply bD | apply bA)); refine blk_put (cs := #[.int .i64 d9, .int .i64 d7]) ?_ 0 _ rfl; (with_reducible repeat (first | apply bN | apply bD | apply bA)); exact A.out⟩, ⟨by repeat (first | (with_reducible first | exact HB.out | apply zA | apply zN | apply zD | refine zS ?_ b3.out | refine zS ?_ b5.out | refine zS ?_ b9.out | refine zS ?_ d1.out | refine zS ?_ d2.out) | exact HB.out)⟩⟩
      ·rw [if_neg c70] at H
       have c70b0 : (!(d3 == d9) || (!(d4 == d7))) = false := by simpa using c70
       clear c70
       replace H := Option.bind_eq_some_iff.mp H
       obtain ⟨⟨g9, h3⟩, A910, H⟩ := H
       replace H : (spec_sdMeet.l2 k2 a2 x12_2 1 P R U V X Y b1 b2 d3 d4 g9 h3) = some (r1, r2, r3, r4) := H
       have A91 := aM A910
       clear A910
       have H' := aM H
       clear H
       have hnb92 := c0.out
       have hnc92 := E.out
       have hnb93 := d0.out
       have hnc93 := Z.out
       have hnb94 := a9.out
       have hnc94 := J.out
       have hnb95 := b4.out
       have hnc95 := b8.out
       have hcz96_0 : wr.cell? ⟨q, 0, none⟩ = some (.int .i64 d3) := (blk_cell C.out 0).trans rfl
       have hcz96_1 : wr.cell? ⟨q, 1, none⟩ = some (.int .i64 d4) := (blk_cell C.out 1).trans rfl
       have hfz96_0 := blk_frozen C.out 0
       have hfz96_1 := blk_frozen C.out 1
       have hnb97 := b6.out
       have hnc97 := D.out
       have hnb98 := b7.out
       have hnc98 := L.out
       have hnb99 := b0.out
       have hnc99 := G.out
       have hcz100_0 : wr.cell? ⟨u, 0, none⟩ = some (.int .i64 d9) := (blk_cell A.out 0).trans rfl
       have hcz100_1 : wr.cell? ⟨u, 1, none⟩ = some (.int .i64 d7) := (blk_cell A.out 1).trans rfl
       have hfz100_0 := blk_frozen A.out 0
       have hfz100_1 := blk_frozen A.out 1
       have hnb101 := f7.out
       have hnc101 := f8.out
       have hnb102 := e9.out
       have hnc102 := f0.out
       have hcz103_0 : wr.cell? ⟨d, 0, none⟩ = some (.int .i64 P) := (blk_cell c.out 0).trans rfl
       have hcz103_1 : wr.cell? ⟨d, 1, none⟩ = some (.int .i64 R) := (blk_cell c.out 1).trans rfl
       have hcz103_2 : wr.cell? ⟨d, 2, none⟩ = some (.int .i64 U) := (blk_cell c.out 2).trans rfl
       have hcz103_3 : wr.cell? ⟨d, 3, none⟩ = some (.int .i64 V) := (blk_cell c.out 3).trans rfl
       have hcz103_4 : wr.cell? ⟨d, 4, none⟩ = some (.int .i64 X) := (blk_cell c.out 4).trans rfl
       have hcz103_5 : wr.cell? ⟨d, 5, none⟩ = some (.bool Y) := (blk_cell c.out 5).trans rfl
       have hfz103_0 := blk_frozen c.out 0
       have hfz103_1 := blk_frozen c.out 1
       have hfz103_2 := blk_frozen c.out 2
       have hfz103_3 := blk_frozen c.out 3
       have hfz103_4 := blk_frozen c.out 4
       have hfz103_5 := blk_frozen c.out 5
       go_wp2_with (first | ((with_reducible refine gate_callee (f := 121) rfl ?_); refine goesL_ (some 61) rfl rfl Try.func121 (by kernel_rfl) rfl #[.agg #[.int .i64 P, .int .i64 R, .int .i64 U, .int .i64 V, .int .i64 X, .bool Y], .agg #[.int .i64 d3, .int .i64 d4], .int .i64 a2] rfl (by (try simp only [List.map_toArray, List.map_cons, List.map_nil]); first | done | rfl) ?_; (with_reducible refine (spec_sdNext.calls k2 P R U V X Y d3 d4 a2 g9 h3 _ A91.out).mono ?_); rintro e w104 ⟨rfl, hb⟩; refine ⟨_, rfl, ?_⟩; have n0_ := aM (bB (g := d) (o := .cells #[.int .i64 P, .int .i64 R, .int .i64 U, .int .i64 V, .int .i64 X, .bool Y] 40 (0, 0)) (by (with_reducible repeat (first | apply bN | apply bD | apply bA)); exact c.out) hb); have n1_ := aM (bB (g := s) (o := .cells #[.int .i64 b1, .int .i64 b2] 93 (0, 0)) (by (with_reducible repeat (first | apply bN | apply bD | apply bA)); exact m.out) hb); have n2_ := aM (bB (g := z) (o := .cells #[.int .i64 e5, .int .i64 e2] 93 (0, 0)) (by (with_reducible repeat (first | apply bN | apply bD | apply bA)); exact y.out) hb); have n3_ := aM (bB (g := q) (o := .cells #[.int .i64 d3, .int .i64 d4] 93 (0, 0)) (by (with_reducible repeat (first | apply bN | apply bD | apply bA)); exact C.out) hb); have n4_ := aM (bB (g := u) (o := .cells #[.int .i64 d9, .int .i64 d7] 93 (0, 0)) (by (with_reducible repeat (first | apply bN | apply bD | apply bA)); exact A.out) hb); have n5_ := aM (below_step (by repeat (first | (with_reducible first | exact HB.out | apply zA | apply zN | apply zD | refine zS ?_ b3.out | refine zS ?_ b5.out | refine zS ?_ b9.out | refine zS ?_ d1.out | refine zS ?_ d2.out) | exact HB.out)) hb); clear c; clear m; clear y; clear C; clear A; clear HB; have c := n0_; have m := n1_; have y := n2_; have C := n3_; have A := n4_; have HB := n5_; clear n0_ n1_ n2_ n3_ n4_ n5_; (try clear hb); (try clear hb2); (try clear hk); (try clear hi); have hcz105_0 : w104.cell? ⟨u, 0, none⟩ = some (.int .i64 d9) := (blk_cell A.out 0).trans rfl; have hcz105_1 : w104.cell? ⟨u, 1, none⟩ = some (.int .i64 d7) := (blk_cell A.out 1).trans rfl; have hfz105_0 := blk_frozen A.out 0; have hfz105_1 := blk_frozen A.out 1))
       go_loopg [13] k2 (fun kq v13 w' => ∃ (x13_3 : Int) (f1 : Int) (e8 : Int) (e4 : Int) (e1 : Int), v13 = .int .i64 x13_3 ∧ Aside0 (spec_sdMeet.l2 kq a2 x12_2 x13_3 P R U V X Y b1 b2 d3 d4 e4 e1 = some (r1, r2, r3, r4)) ∧ Aside0 (kq ≤ k2) ∧ Aside0 (w'.heap[d]? = some (.cells #[.int .i64 P, .int .i64 R, .int .i64 U, .int .i64 V, .int .i64 X, .bool Y] 40 (0, 0))) ∧ Aside0 (w'.heap[s]? = some (.cells #[.int .i64 b1, .int .i64 b2] 93 (0, 0))) ∧ Aside0 (w'.heap[z]? = some (.cells #[.int .i64 f1, .int .i64 e8] 93 (0, 0))) ∧ Aside0 (w'.heap[q]? = some (.cells #[.int .i64 d3, .int .i64 d4] 93 (0, 0))) ∧ Aside0 (w'.heap[u]? = some (.cells #[.int .i64 e4, .int .i64 e1] 93 (0, 0))) ∧ Aside0 (Below w.heap.size w w'))
       case atStart => exact ⟨(1), (e5), (e2), (g9), (h3), (by first | rfl | (simp [*]; done)), H', ⟨Nat.le_refl _⟩, ⟨by (with_reducible repeat (first | apply bN | apply bD | apply bA)); refine blk_far ?_ D.out _; (with_reducible repeat (first | apply bN | apply bD | apply bA)); refine blk_far ?_ D.out _; (with_reducible repeat (first | apply bN | apply bD | apply bA)); exact c.out⟩, ⟨by (with_reducible repeat (first | apply bN | apply bD | apply bA)); refine blk_far ?_ L.out _; (with_reducible repeat (first | apply bN | apply bD | apply bA)); refine blk_far ?_ L.out _; (with_reducible repeat (first | apply bN | apply bD | apply bA)); exact m.out⟩, ⟨by (with_reducible repeat (first | apply bN | apply bD | apply bA)); refine blk_far ?_ G.out _; (with_reducible repeat (first | apply bN | apply bD | apply bA)); refine blk_far ?_ G.out _; (with_reducible repeat (first | apply bN | apply bD | apply bA)); exact y.out⟩, ⟨by (with_reducible repeat (first | apply bN | apply bD | apply bA)); refine blk_far ?_ b4.out _; (with_reducible repeat (first | apply bN | apply bD | apply bA)); refine blk_far ?_ b4.out _; (with_reducible repeat (first | apply bN | apply bD | apply bA)); exact C.out⟩, ⟨by (with_reducible repeat (first | apply bN | apply bD | apply bA)); refine blk_put (cs := #[.int .i64 g9, .int .i64 d7]) ?_ 1 _ rfl; (with_reducible repeat (first | apply bN | apply bD | apply bA)); refine blk_put (cs := #[.int .i64 d9, .int .i64 d7]) ?_ 0 _ rfl; (with_reducible repeat (first | apply bN | apply bD | apply bA)); exact A.out⟩, ⟨by repeat (first | (with_reducible first | exact HB.out | apply zA | apply zN | apply zD | refine zS ?_ b3.out | refine zS ?_ b5.out | refine zS ?_ b9.out | refine zS ?_ d1.out | refine zS ?_ d2.out) | exact HB.out)⟩⟩
       case round =>
        clear H'
        try clear c1
        try clear c2
        try clear p2
        try clear c3
        try clear c4
        try clear c5
        try clear c6
        try clear p6
        try clear c7
        try clear c8
        try clear c9
        try clear c10
        try clear c12
        try clear c21
        try clear c21b0
        try clear c22
        try clear c22b0
        try clear c23
        try clear c24
        try clear c25
        try clear c26
        try clear c28
        try clear c29
        try clear c30
        try clear c38
        try clear c39
        try clear c40
        try clear c41
        try clear c43
        try clear c44
        try clear c45
        try clear c47
        try clear c48
        try clear c58
        try clear c59
        try clear c60
        try clear c61
        try clear c63
        try clear c64
        try clear p64
        try clear c65
        try clear c67
        try clear c68
        try clear c70
        try clear c70b0
        try clear c73
        try clear c74
        try clear c75
        try clear c76
        try clear c78
        try clear c79
        try clear c80
        try clear c82
        try clear c83
        try clear c92
        try clear c93
        try clear c94
        try clear c95
        try clear c97
        try clear c98
        try clear c99
        try clear c101
        try clear c102
        try clear hcz100_0
        try clear hcz100_1
        try clear hcz103_0
        try clear hcz103_1
        try clear hcz103_2
        try clear hcz103_3
        try clear hcz103_4
        try clear hcz103_5
        try clear hcz105_0
        try clear hcz105_1
        try clear hcz27_0
        try clear hcz27_1
        try clear hcz31_0
        try clear hcz31_1
        try clear hcz42_0
        try clear hcz42_1
        try clear hcz46_0
        try clear hcz46_1
        try clear hcz49_0
        try clear hcz49_1
        try clear hcz49_2
        try clear hcz49_3
        try clear hcz49_4
        try clear hcz49_5
        try clear hcz51_0
        try clear hcz51_1
        try clear hcz62_0
        try clear hcz62_1
        try clear hcz66_0
        try clear hcz66_1
        try clear hcz69_0
        try clear hcz69_1
        try clear hcz77_0
        try clear hcz77_1
        try clear hcz81_0
        try clear hcz81_1
        try clear hcz84_0
        try clear hcz84_1
        try clear hcz84_2
        try clear hcz84_3
        try clear hcz84_4
        try clear hcz84_5
        try clear hcz86_0
        try clear hcz86_1
        try clear hcz87_0
        try clear hcz87_1
        try clear hcz87_2
        try clear hcz87_3
        try clear hcz87_4
        try clear hcz87_5
        try clear hcz88_0
        try clear hcz88_1
        try clear hcz90_0
        try clear hcz90_1
        try clear hcz96_0
        try clear hcz96_1
        try clear hfz100_0
        try clear hfz100_1
        try clear hfz103_0
        try clear hfz103_1
        try clear hfz103_2
        try clear hfz103_3
        try clear hfz103_4
        try clear hfz103_5
        try clear hfz105_0
        try clear hfz105_1
        try clear hfz27_0
        try clear hfz27_1
        try clear hfz31_0
        try clear hfz31_1
        try clear hfz42_0
        try clear hfz42_1
        try clear hfz46_0
        try clear hfz46_1
        try clear hfz49_0
        try clear hfz49_1
        try clear hfz49_2
        try clear hfz49_3
        try clear hfz49_4
        try clear hfz49_5
        try clear hfz51_0
        try clear hfz51_1
        try clear hfz62_0
        try clear hfz62_1
        try clear hfz66_0
        try clear hfz66_1
        try clear hfz69_0
        try clear hfz69_1
        try clear hfz77_0
        try clear hfz77_1
        try clear hfz81_0
        try clear hfz81_1
        try clear hfz84_0
        try clear hfz84_1
        try clear hfz84_2
        try clear hfz84_3
        try clear hfz84_4
        try clear hfz84_5
        try clear hfz86_0
        try clear hfz86_1
        try clear hfz87_0
        try clear hfz87_1
        try clear hfz87_2
        try clear hfz87_3
        try clear hfz87_4
        try clear hfz87_5
        try clear hfz88_0
        try clear hfz88_1
        try clear hfz90_0
        try clear hfz90_1
        try clear hfz96_0
        try clear hfz96_1
        try clear p2
        try clear p6
        try clear p64
        obtain ⟨x13_3, f1, e8, e4, e1, rfl, HA, HK3, c, m, y, C, A, HB⟩ := hrel
        cases gk with
        | zero => exact absurd HA.out (by simp [spec_sdMeet.l2])
        | succ k3 =>
         have H := HA.out
         clear HA
         simp only [spec_sdMeet.l2] at H
         by_cases c106 : (!(e4 == d3) || (!(e1 == d4))) = true
         ·rw [if_pos c106] at H
          have c106b0 : (!(e4 == d3) || (!(e1 == d4))) = true := c106
          clear c106
          by_cases c107 : (wrap64 (x13_3 + 1)) > 20000
          ·rw [if_pos c107] at H
           have c107b0 : decide (20000 < (wrap64 (x13_3 + 1))) = true := decide_eq_true c107
           clear c107
           simp only [Option.some.injEq, Prod.mk.injEq] at H
           obtain ⟨rfl, rfl, rfl, rfl⟩ := H
           have hnb108 := b6.out
           have hnc108 := D.out
           have hnb109 := b7.out
           have hnc109 := L.out
           have hnb110 := b0.out
           have hnc110 := G.out
           have hnb111 := b8.out
           have hnc111 := b4.out
           have hcz112_0 : wr.cell? ⟨u, 0, none⟩ = some (.int .i64 e4) := (blk_cell A.out 0).trans rfl
           have hcz112_1 : wr.cell? ⟨u, 1, none⟩ = some (.int .i64 e1) := (blk_cell A.out 1).trans rfl
           have hfz112_0 := blk_frozen A.out 0
           have hfz112_1 := blk_frozen A.out 1
           have hnb113 := c0.out
           have hnc113 := E.out
           have hnb114 := d0.out
           have hnc114 := Z.out
           have hnb115 := a9.out
           have hnc115 := J.out
           have hcz116_0 : wr.cell? ⟨q, 0, none⟩ = some (.int .i64 d3) := (blk_cell C.out 0).trans rfl
           have hcz116_1 : wr.cell? ⟨q, 1, none⟩ = some (.int .i64 d4) := (blk_cell C.out 1).trans rfl
           have hfz116_0 := blk_frozen C.out 0
           have hfz116_1 := blk_frozen C.out 1
           try go_wp2
           have n0_ := aM (bD c.out)
           have n1_ := aM (bD m.out)
           have n2_ := aM (bD y.out)
           have n3_ := aM (bD C.out)
           have n4_ := aM (bD A.out)
           have n5_ := aM (zD HB.out)
           clear c
           clear m
           clear y
           clear C
           clear A
           clear HB
           have c := n0_
           have m := n1_
           have y := n2_
           have C := n3_
           have A := n4_
           have HB := n5_
           clear n0_ n1_ n2_ n3_ n4_ n5_
           refine start_ (n := 4) (S := fun w' => w'.cell? ⟨s, 0, none⟩ = some (.int .i64 b1) ∧ w'.cell? ⟨s, 1, none⟩ = some (.int .i64 b2)) (ds := []) #[false, false, false, false] (by kernel_rfl) rfl rfl ⟨(blk_cell m.out 0).trans rfl, (blk_cell m.out 1).trans rfl⟩ (fun hHeld => ?_)
           generalize wr.drew = w117 at c m y C A HB hHeld ⊢
           refine pure_ (i := 1) (N := some 6) (v := ?_) (a' := ?_) #[false, true, false, false] rfl rfl (by kernel_rfl) (fun _ _ _ h => h) (Or.inl ⟨by rfl, ?_⟩) ?_ ?_
           rotate_left
           ·intro w'
            go_simp
            with_reducible rfl
           rotate_left
           ·simp only [Act.put, List.setIfInBounds_toArray, List.set_cons_zero, List.set_cons_succ, i64_w, i32_w]
            rfl
           refine take_ (i := 0) (N := some 73) (v := ?_) (a' := ?_) #[true, true, false, false] rfl rfl (by kernel_rfl) (fun _ _ _ h => h) (Or.inl ⟨by rfl, ?_⟩) hHeld ?_ ?_
           rotate_left
           ·rintro w' ⟨s0, s1⟩
            go_simp
            with_reducible rfl
           rotate_left
           ·simp only [Act.put, List.setIfInBounds_toArray, List.set_cons_zero, List.set_cons_succ, i64_w, i32_w]
            rfl
           refine one_ (i := 2) (N := none) #[true, true, true, false] rfl rfl (by kernel_rfl) (by decide) (fun K hK => ?_)
           have hs118 : w117.cell? ⟨z, 0, none⟩ = some (.int .i64 f1) := (blk_cell y.out 0).trans rfl
           have hfs118 := blk_frozen y.out 0
           have hns118_0 := e9.out
           have hns118_1 := d5.out
           have hns118_3 := a9.out
           have hns118_4 := b0.out
           have hms118_0 := f0.out
           have hms118_1 := f2.out
           have hms118_3 := J.out
           have hms118_4 := G.out
           have hs119 : w117.cell? ⟨z, 1, none⟩ = some (.int .i64 e8) := (blk_cell y.out 1).trans rfl
           have hfs119 := blk_frozen y.out 1
           have hns119_0 := e9.out
           have hns119_1 := d5.out
           have hns119_3 := a9.out
           have hns119_4 := b0.out
           have hms119_0 := f0.out
           have hms119_1 := f2.out
           have hms119_3 := J.out
           have hms119_4 := G.out
           refine skip_ (w1 := ?_) (by rfl) rfl ?_ ?_
           rotate_left
           ·go_simp
            rfl
           refine hK.out _ _ ⟨((cell_far (p := ⟨z, _, none⟩) d5.out _).trans (((cell_far (p := ⟨z, _, none⟩) d5.out _).trans (hHeld.1)))), ((cell_far (p := ⟨z, _, none⟩) d5.out _).trans (((cell_far (p := ⟨z, _, none⟩) d5.out _).trans (hHeld.2))))⟩ (fun hHeld => ?_)
           clear hK K
           refine pure_ (i := 3) (N := some 8) (v := ?_) (a' := ?_) #[true, true, true, true] rfl rfl (by kernel_rfl) (fun _ _ _ h => h) (Or.inl ⟨by rfl, ?_⟩) ?_ ?_
           rotate_left
           ·intro w'
            go_simp
            with_reducible rfl
           rotate_left
           ·simp only [Act.put, List.setIfInBounds_toArray, List.set_cons_zero, List.set_cons_succ, i64_w, i32_w]
            rfl
           refine done_ (by kernel_rfl) ?_
           try go_wp2
           refine bodyPost_ret (results_list (rs := [.tmp 6, .cell 7 93, .tmp 8]) rfl (by simp) (.tmp (.cell z 93 #[.int .i64 b1, .int .i64 b2] (0, 0) _ rfl (by (with_reducible repeat (first | apply bN | apply bD | apply bA)); refine blk_put (cs := #[.int .i64 b1, .int .i64 e8]) ?_ 1 _ rfl; (with_reducible repeat (first | apply bN | apply bD | apply bA)); refine blk_put (cs := #[.int .i64 f1, .int .i64 e8]) ?_ 0 _ rfl; (with_reducible repeat (first | apply bN | apply bD | apply bA)); exact y.out) Try.underlying93 rfl (by kernel_rfl) (.tmp .nil)))) rfl ?_
           exact ⟨by first | rfl | (simp [*] <;> rfl), by repeat (first | (with_reducible first | exact HB.out | apply zA | apply zN | apply zD | refine zS ?_ b3.out | refine zS ?_ b5.out | refine zS ?_ b9.out | refine zS ?_ d1.out | refine zS ?_ d2.out) | exact HB.out)⟩
          ·rw [if_neg c107] at H
           have c107b0 : decide (20000 < (wrap64 (x13_3 + 1))) = false := decide_eq_false c107
           clear c107
           replace H := Option.bind_eq_some_iff.mp H
           obtain ⟨⟨h0, h4⟩, A1200, H⟩ := H
           replace H : (spec_sdMeet.l2 k3 a2 x12_2 (wrap64 (x13_3 + 1)) P R U V X Y b1 b2 d3 d4 h0 h4) = some (r1, r2, r3, r4) := H
           have A120 := aM A1200
           clear A1200
           have H' := aM H
           clear H
           have hnb121 := b6.out
           have hnc121 := D.out
           have hnb122 := b7.out
           have hnc122 := L.out
           have hnb123 := b0.out
           have hnc123 := G.out
           have hnb124 := b8.out
           have hnc124 := b4.out
           have hcz125_0 : wr.cell? ⟨u, 0, none⟩ = some (.int .i64 e4) := (blk_cell A.out 0).trans rfl
           have hcz125_1 : wr.cell? ⟨u, 1, none⟩ = some (.int .i64 e1) := (blk_cell A.out 1).trans rfl
           have hfz125_0 := blk_frozen A.out 0
           have hfz125_1 := blk_frozen A.out 1
           have hnb126 := c0.out
           have hnc126 := E.out
           have hnb127 := d0.out
           have hnc127 := Z.out
           have hnb128 := a9.out
           have hnc128 := J.out
           have hcz129_0 : wr.cell? ⟨q, 0, none⟩ = some (.int .i64 d3) := (blk_cell C.out 0).trans rfl
           have hcz129_1 : wr.cell? ⟨q, 1, none⟩ = some (.int .i64 d4) := (blk_cell C.out 1).trans rfl
           have hfz129_0 := blk_frozen C.out 0
           have hfz129_1 := blk_frozen C.out 1
           have hnb130 := f7.out
           have hnc130 := f8.out
           have hnb131 := e9.out
           have hnc131 := f0.out
           have hcz132_0 : wr.cell? ⟨d, 0, none⟩ = some (.int .i64 P) := (blk_cell c.out 0).trans rfl
           have hcz132_1 : wr.cell? ⟨d, 1, none⟩ = some (.int .i64 R) := (blk_cell c.out 1).trans rfl
           have hcz132_2 : wr.cell? ⟨d, 2, none⟩ = some (.int .i64 U) := (blk_cell c.out 2).trans rfl
           have hcz132_3 : wr.cell? ⟨d, 3, none⟩ = some (.int .i64 V) := (blk_cell c.out 3).trans rfl
           have hcz132_4 : wr.cell? ⟨d, 4, none⟩ = some (.int .i64 X) := (blk_cell c.out 4).trans rfl
           have hcz132_5 : wr.cell? ⟨d, 5, none⟩ = some (.bool Y) := (blk_cell c.out 5).trans rfl
           have hfz132_0 := blk_frozen c.out 0
           have hfz132_1 := blk_frozen c.out 1
           have hfz132_2 := blk_frozen c.out 2
           have hfz132_3 := blk_frozen c.out 3
           have hfz132_4 := blk_frozen c.out 4
           have hfz132_5 := blk_frozen c.out 5
           go_wp2_with (first | ((with_reducible refine gate_callee (f := 121) rfl ?_); refine goesL_ (some 68) rfl rfl Try.func121 (by kernel_rfl) rfl #[.agg #[.int .i64 P, .int .i64 R, .int .i64 U, .int .i64 V, .int .i64 X, .bool Y], .agg #[.int .i64 e4, .int .i64 e1], .int .i64 a2] rfl (by (try simp only [List.map_toArray, List.map_cons, List.map_nil]); first | done | rfl) ?_; (with_reducible refine (spec_sdNext.calls k3 P R U V X Y e4 e1 a2 h0 h4 _ A120.out).mono ?_); rintro e w133 ⟨rfl, hb⟩; refine ⟨_, rfl, ?_⟩; have n0_ := aM (bB (g := d) (o := .cells #[.int .i64 P, .int .i64 R, .int .i64 U, .int .i64 V, .int .i64 X, .bool Y] 40 (0, 0)) (by (with_reducible repeat (first | apply bN | apply bD | apply bA)); exact c.out) hb); have n1_ := aM (bB (g := s) (o := .cells #[.int .i64 b1, .int .i64 b2] 93 (0, 0)) (by (with_reducible repeat (first | apply bN | apply bD | apply bA)); exact m.out) hb); have n2_ := aM (bB (g := z) (o := .cells #[.int .i64 f1, .int .i64 e8] 93 (0, 0)) (by (with_reducible repeat (first | apply bN | apply bD | apply bA)); exact y.out) hb); have n3_ := aM (bB (g := q) (o := .cells #[.int .i64 d3, .int .i64 d4] 93 (0, 0)) (by (with_reducible repeat (first | apply bN | apply bD | apply bA)); exact C.out) hb); have n4_ := aM (bB (g := u) (o := .cells #[.int .i64 e4, .int .i64 e1] 93 (0, 0)) (by (with_reducible repeat (first | apply bN | apply bD | apply bA)); exact A.out) hb); have n5_ := aM (below_step (by repeat (first | (with_reducible first | exact HB.out | apply zA | apply zN | apply zD | refine zS ?_ b3.out | refine zS ?_ b5.out | refine zS ?_ b9.out | refine zS ?_ d1.out | refine zS ?_ d2.out) | exact HB.out)) hb); clear c; clear m; clear y; clear C; clear A; clear HB; have c := n0_; have m := n1_; have y := n2_; have C := n3_; have A := n4_; have HB := n5_; clear n0_ n1_ n2_ n3_ n4_ n5_; (try clear hb); (try clear hb2); (try clear hk); (try clear hi); have hcz134_0 : w133.cell? ⟨u, 0, none⟩ = some (.int .i64 e4) := (blk_cell A.out 0).trans rfl; have hcz134_1 : w133.cell? ⟨u, 1, none⟩ = some (.int .i64 e1) := (blk_cell A.out 1).trans rfl; have hfz134_0 := blk_frozen A.out 0; have hfz134_1 := blk_frozen A.out 1))
           go_roundg k3
           case measure => have := HK1.out; have := HK2.out; have := HK3.out; omega
           case rel => exact ⟨(wrap64 (x13_3 + 1)), (f1), (e8), (h0), (h4), (by first | rfl | (simp [*]; done)), H', ⟨by have := HK1.out; have := HK2.out; have := HK3.out; omega⟩, ⟨by (with_reducible repeat (first | apply bN | apply bD | apply bA)); refine blk_far ?_ D.out _; (with_reducible repeat (first | apply bN | apply bD | apply bA)); refine blk_far ?_ D.out _; (with_reducible repeat (first | apply bN | apply bD | apply bA)); exact c.out⟩, ⟨by (with_reducible repeat (first | apply bN | apply bD | apply bA)); refine blk_far ?_ L.out _; (with_reducible repeat (first | apply bN | apply bD | apply bA)); refine blk_far ?_ L.out _; (with_reducible repeat (first | apply bN | apply bD | apply bA)); exact m.out⟩, ⟨by (with_reducible repeat (first | apply bN | apply bD | apply bA)); refine blk_far ?_ G.out _; (with_reducible repeat (first | apply bN | apply bD | apply bA)); refine blk_far ?_ G.out _; (with_reducible repeat (first | apply bN | apply bD | apply bA)); exact y.out⟩, ⟨by (with_reducible repeat (first | apply bN | apply bD | apply bA)); refine blk_far ?_ b4.out _; (with_reducible repeat (first | apply bN | apply bD | apply bA)); refine blk_far ?_ b4.out _; (with_reducible repeat (first | apply bN | apply bD | apply bA)); exact C.out⟩, ⟨by (with_reducible repeat (first | apply bN | apply bD | apply bA)); refine blk_put (cs := #[.int .i64 h0, .int .i64 e1]) ?_ 1 _ rfl; (with_reducible repeat (first | apply bN | apply bD | apply bA)); refine blk_put (cs := #[.int .i64 e4, .int .i64 e1]) ?_ 0 _ rfl; (with_reducible repeat (first | apply bN | apply bD | apply bA)); exact A.out⟩, ⟨by repeat (first | (with_reducible first | exact HB.out | apply zA | apply zN | apply zD | refine zS ?_ b3.out | refine zS ?_ b5.out | refine zS ?_ b9.out | refine zS ?_ d1.out | refine zS ?_ d2.out) | exact HB.out)⟩⟩
         ·rw [if_neg c106] at H
          have c106b0 : (!(e4 == d3) || (!(e1 == d4))) = false := by simpa using c106
          clear c106
          by_cases c135 : (wrap64 (x12_2 + x13_3)) > 20000
          ·rw [if_pos c135] at H
           have c135b0 : decide (20000 < (wrap64 (x12_2 + x13_3))) = true := decide_eq_true c135
           clear c135
           simp only [Option.some.injEq, Prod.mk.injEq] at H
           obtain ⟨rfl, rfl, rfl, rfl⟩ := H
           have hnb136 := b6.out
           have hnc136 := D.out
           have hnb137 := b7.out
           have hnc137 := L.out
           have hnb138 := b0.out
           have hnc138 := G.out
           have hnb139 := b8.out
           have hnc139 := b4.out
           have hcz140_0 : wr.cell? ⟨u, 0, none⟩ = some (.int .i64 e4) := (blk_cell A.out 0).trans rfl
           have hcz140_1 : wr.cell? ⟨u, 1, none⟩ = some (.int .i64 e1) := (blk_cell A.out 1).trans rfl
           have hfz140_0 := blk_frozen A.out 0
           have hfz140_1 := blk_frozen A.out 1
           have hnb141 := c0.out
           have hnc141 := E.out
           have hnb142 := d0.out
           have hnc142 := Z.out
           have hnb143 := a9.out
           have hnc143 := J.out
           have hcz144_0 : wr.cell? ⟨q, 0, none⟩ = some (.int .i64 d3) := (blk_cell C.out 0).trans rfl
           have hcz144_1 : wr.cell? ⟨q, 1, none⟩ = some (.int .i64 d4) := (blk_cell C.out 1).trans rfl
           have hfz144_0 := blk_frozen C.out 0
           have hfz144_1 := blk_frozen C.out 1
           try go_wp2
           have n0_ := aM (bD c.out)
           have n1_ := aM (bD m.out)
           have n2_ := aM (bD y.out)
           have n3_ := aM (bD C.out)
           have n4_ := aM (bD A.out)
           have n5_ := aM (zD HB.out)
           clear c
           clear m
           clear y
           clear C
           clear A
           clear HB
           have c := n0_
           have m := n1_
           have y := n2_
           have C := n3_
           have A := n4_
           have HB := n5_
           clear n0_ n1_ n2_ n3_ n4_ n5_
           refine start_ (n := 4) (S := fun w' => w'.cell? ⟨s, 0, none⟩ = some (.int .i64 b1) ∧ w'.cell? ⟨s, 1, none⟩ = some (.int .i64 b2)) (ds := []) #[false, false, false, false] (by kernel_rfl) rfl rfl ⟨(blk_cell m.out 0).trans rfl, (blk_cell m.out 1).trans rfl⟩ (fun hHeld => ?_)
           generalize wr.drew = w145 at c m y C A HB hHeld ⊢
           refine pure_ (i := 1) (N := some 6) (v := ?_) (a' := ?_) #[false, true, false, false] rfl rfl (by kernel_rfl) (fun _ _ _ h => h) (Or.inl ⟨by rfl, ?_⟩) ?_ ?_
           rotate_left
           ·intro w'
            go_simp
            with_reducible rfl
           rotate_left
           ·simp only [Act.put, List.setIfInBounds_toArray, List.set_cons_zero, List.set_cons_succ, i64_w, i32_w]
            rfl
           refine take_ (i := 0) (N := some 78) (v := ?_) (a' := ?_) #[true, true, false, false] rfl rfl (by kernel_rfl) (fun _ _ _ h => h) (Or.inl ⟨by rfl, ?_⟩) hHeld ?_ ?_
           rotate_left
           ·rintro w' ⟨s0, s1⟩
            go_simp
            with_reducible rfl
           rotate_left
           ·simp only [Act.put, List.setIfInBounds_toArray, List.set_cons_zero, List.set_cons_succ, i64_w, i32_w]
            rfl
           refine one_ (i := 2) (N := none) #[true, true, true, false] rfl rfl (by kernel_rfl) (by decide) (fun K hK => ?_)
           have hs146 : w145.cell? ⟨z, 0, none⟩ = some (.int .i64 f1) := (blk_cell y.out 0).trans rfl
           have hfs146 := blk_frozen y.out 0
           have hns146_0 := e9.out
           have hns146_1 := d5.out
           have hns146_3 := a9.out
           have hns146_4 := b0.out
           have hms146_0 := f0.out
           have hms146_1 := f2.out
           have hms146_3 := J.out
           have hms146_4 := G.out
           have hs147 : w145.cell? ⟨z, 1, none⟩ = some (.int .i64 e8) := (blk_cell y.out 1).trans rfl
           have hfs147 := blk_frozen y.out 1
           have hns147_0 := e9.out
           have hns147_1 := d5.out
           have hns147_3 := a9.out
           have hns147_4 := b0.out
           have hms147_0 := f0.out
           have hms147_1 := f2.out
           have hms147_3 := J.out
           have hms147_4 := G.out
           refine skip_ (w1 := ?_) (by rfl) rfl ?_ ?_
           rotate_left
           ·go_simp
            rfl
           refine hK.out _ _ ⟨((cell_far (p := ⟨z, _, none⟩) d5.out _).trans (((cell_far (p := ⟨z, _, none⟩) d5.out _).trans (hHeld.1)))), ((cell_far (p := ⟨z, _, none⟩) d5.out _).trans (((cell_far (p := ⟨z, _, none⟩) d5.out _).trans (hHeld.2))))⟩ (fun hHeld => ?_)
           clear hK K
           refine pure_ (i := 3) (N := some 8) (v := ?_) (a' := ?_) #[true, true, true, true] rfl rfl (by kernel_rfl) (fun _ _ _ h => h) (Or.inl ⟨by rfl, ?_⟩) ?_ ?_
           rotate_left
           ·intro w'
            go_simp
            with_reducible rfl
           rotate_left
           ·simp only [Act.put, List.setIfInBounds_toArray, List.set_cons_zero, List.set_cons_succ, i64_w, i32_w]
            rfl
           refine done_ (by kernel_rfl) ?_
           try go_wp2
           refine bodyPost_ret (results_list (rs := [.tmp 6, .cell 7 93, .tmp 8]) rfl (by simp) (.tmp (.cell z 93 #[.int .i64 b1, .int .i64 b2] (0, 0) _ rfl (by (with_reducible repeat (first | apply bN | apply bD | apply bA)); refine blk_put (cs := #[.int .i64 b1, .int .i64 e8]) ?_ 1 _ rfl; (with_reducible repeat (first | apply bN | apply bD | apply bA)); refine blk_put (cs := #[.int .i64 f1, .int .i64 e8]) ?_ 0 _ rfl; (with_reducible repeat (first | apply bN | apply bD | apply bA)); exact y.out) Try.underlying93 rfl (by kernel_rfl) (.tmp .nil)))) rfl ?_
           exact ⟨by first | rfl | (simp [*] <;> rfl), by repeat (first | (with_reducible first | exact HB.out | apply zA | apply zN | apply zD | refine zS ?_ b3.out | refine zS ?_ b5.out | refine zS ?_ b9.out | refine zS ?_ d1.out | refine zS ?_ d2.out) | exact HB.out)⟩
          ·rw [if_neg c135] at H
           have c135b0 : decide (20000 < (wrap64 (x12_2 + x13_3))) = false := decide_eq_false c135
           clear c135
           simp only [Option.some.injEq, Prod.mk.injEq] at H
           obtain ⟨rfl, rfl, rfl, rfl⟩ := H
           have hnb148 := b6.out
           have hnc148 := D.out
           have hnb149 := b7.out
           have hnc149 := L.out
           have hnb150 := b0.out
           have hnc150 := G.out
           have hnb151 := b8.out
           have hnc151 := b4.out
           have hcz152_0 : wr.cell? ⟨u, 0, none⟩ = some (.int .i64 e4) := (blk_cell A.out 0).trans rfl
           have hcz152_1 : wr.cell? ⟨u, 1, none⟩ = some (.int .i64 e1) := (blk_cell A.out 1).trans rfl
           have hfz152_0 := blk_frozen A.out 0
           have hfz152_1 := blk_frozen A.out 1
           have hnb153 := c0.out
           have hnc153 := E.out
           have hnb154 := d0.out
           have hnc154 := Z.out
           have hnb155 := a9.out
           have hnc155 := J.out
           have hcz156_0 : wr.cell? ⟨q, 0, none⟩ = some (.int .i64 d3) := (blk_cell C.out 0).trans rfl
           have hcz156_1 : wr.cell? ⟨q, 1, none⟩ = some (.int .i64 d4) := (blk_cell C.out 1).trans rfl
           have hfz156_0 := blk_frozen C.out 0
           have hfz156_1 := blk_frozen C.out 1
           try go_wp2
           have n0_ := aM (bD c.out)
           have n1_ := aM (bD m.out)
           have n2_ := aM (bD y.out)
           have n3_ := aM (bD C.out)
           have n4_ := aM (bD A.out)
           have n5_ := aM (zD HB.out)
           clear c
           clear m
           clear y
           clear C
           clear A
           clear HB
           have c := n0_
           have m := n1_
           have y := n2_
           have C := n3_
           have A := n4_
           have HB := n5_
           clear n0_ n1_ n2_ n3_ n4_ n5_
           refine start_ (n := 6) (S := fun w' => w'.cell? ⟨q, 0, none⟩ = some (.int .i64 d3) ∧ w'.cell? ⟨q, 1, none⟩ = some (.int .i64 d4)) (ds := []) #[false, false, false, false, false, false] (by kernel_rfl) rfl rfl ⟨(blk_cell C.out 0).trans rfl, (blk_cell C.out 1).trans rfl⟩ (fun hHeld => ?_)
           generalize wr.drew = w157 at c m y C A HB hHeld ⊢
           refine pure_ (i := 0) (N := some 79) (v := ?_) (a' := ?_) #[true, false, false, false, false, false] rfl rfl (by kernel_rfl) (fun _ _ _ h => h) (Or.inl ⟨by rfl, ?_⟩) ?_ ?_
           rotate_left
           ·intro w'
            go_simp
            with_reducible rfl
           rotate_left
           ·simp only [Act.put, List.setIfInBounds_toArray, List.set_cons_zero, List.set_cons_succ, i64_w, i32_w]
            rfl
           refine pure_ (i := 2) (N := some 81) (v := ?_) (a' := ?_) #[true, false, true, false, false, false] rfl rfl (by kernel_rfl) (fun _ _ _ h => h) (Or.inl ⟨by rfl, ?_⟩) ?_ ?_
           rotate_left
           ·intro w'
            go_simp
            with_reducible rfl
           rotate_left
           ·simp only [Act.put, List.setIfInBounds_toArray, List.set_cons_zero, List.set_cons_succ, i64_w, i32_w]
            rfl
           refine pure_ (i := 3) (N := some 6) (v := ?_) (a' := ?_) #[true, false, true, true, false, false] rfl rfl (by kernel_rfl) (fun _ _ _ h => h) (Or.inl ⟨by rfl, ?_⟩) ?_ ?_
           rotate_left
           ·intro w'
            go_simp
            with_reducible rfl
           rotate_left
           ·simp only [Act.put, List.setIfInBounds_toArray, List.set_cons_zero, List.set_cons_succ, i64_w, i32_w]
            rfl
           refine take_ (i := 1) (N := some 80) (v := ?_) (a' := ?_) #[true, true, true, true, false, false] rfl rfl (by kernel_rfl) (fun _ _ _ h => h) (Or.inl ⟨by rfl, ?_⟩) hHeld ?_ ?_
           rotate_left
           ·rintro w' ⟨s0, s1⟩
            go_simp
            with_reducible rfl
           rotate_left
           ·simp only [Act.put, List.setIfInBounds_toArray, List.set_cons_zero, List.set_cons_succ, i64_w, i32_w]
            rfl
           refine one_ (i := 4) (N := none) #[true, true, true, true, true, false] rfl rfl (by kernel_rfl) (by decide) (fun K hK => ?_)
           have hs158 : w157.cell? ⟨z, 0, none⟩ = some (.int .i64 f1) := (blk_cell y.out 0).trans rfl
           have hfs158 := blk_frozen y.out 0
           have hns158_0 := e9.out
           have hns158_1 := d5.out
           have hns158_3 := a9.out
           have hns158_4 := b0.out
           have hms158_0 := f0.out
           have hms158_1 := f2.out
           have hms158_3 := J.out
           have hms158_4 := G.out
           have hs159 : w157.cell? ⟨z, 1, none⟩ = some (.int .i64 e8) := (blk_cell y.out 1).trans rfl
           have hfs159 := blk_frozen y.out 1
           have hns159_0 := e9.out
           have hns159_1 := d5.out
           have hns159_3 := a9.out
           have hns159_4 := b0.out
           have hms159_0 := f0.out
           have hms159_1 := f2.out
           have hms159_3 := J.out
           have hms159_4 := G.out
           refine skip_ (w1 := ?_) (by rfl) rfl ?_ ?_
           rotate_left
           ·go_simp
            rfl
           refine hK.out _ _ ⟨((cell_far (p := ⟨z, _, none⟩) a9.out _).trans (((cell_far (p := ⟨z, _, none⟩) a9.out _).trans (hHeld.1)))), ((cell_far (p := ⟨z, _, none⟩) a9.out _).trans (((cell_far (p := ⟨z, _, none⟩) a9.out _).trans (hHeld.2))))⟩ (fun hHeld => ?_)
           clear hK K
           refine pure_ (i := 5) (N := some 8) (v := ?_) (a' := ?_) #[true, true, true, true, true, true] rfl rfl (by kernel_rfl) (fun _ _ _ h => h) (Or.inl ⟨by rfl, ?_⟩) ?_ ?_
           rotate_left
           ·intro w'
            go_simp
            with_reducible rfl
           rotate_left
           ·simp only [Act.put, List.setIfInBounds_toArray, List.set_cons_zero, List.set_cons_succ, i64_w, i32_w]
            rfl
           refine done_ (by kernel_rfl) ?_
           try go_wp2
           refine bodyPost_ret (results_list (rs := [.tmp 6, .cell 7 93, .tmp 8]) rfl (by simp) (.tmp (.cell z 93 #[.int .i64 d3, .int .i64 d4] (0, 0) _ rfl (by (with_reducible repeat (first | apply bN | apply bD | apply bA)); refine blk_put (cs := #[.int .i64 d3, .int .i64 e8]) ?_ 1 _ rfl; (with_reducible repeat (first | apply bN | apply bD | apply bA)); refine blk_put (cs := #[.int .i64 f1, .int .i64 e8]) ?_ 0 _ rfl; (with_reducible repeat (first | apply bN | apply bD | apply bA)); exact y.out) Try.underlying93 rfl (by kernel_rfl) (.tmp .nil)))) rfl ?_
           exact ⟨by first | rfl | (simp [*] <;> rfl), by repeat (first | (with_reducible first | exact HB.out | apply zA | apply zN | apply zD | refine zS ?_ b3.out | refine zS ?_ b5.out | refine zS ?_ b9.out | refine zS ?_ d1.out | refine zS ?_ d2.out) | exact HB.out)⟩

end Go.Proofs.Ytjknlfgphlopnaa.PFnExactCycleOfPair
