-- Written by this session's pp.py over the kit's print.
import Derived.Test.YtjknlfgphlopnaaPFnExactCycleOfPairx0
import Derived.Test.YtjknlfgphlopnaaPFnExactCycleOfPairx7
import Derived.Test.YtjknlfgphlopnaaPFnExactCycleOfPairx8
namespace Go.Proofs.Ytjknlfgphlopnaa.PFnExactCycleOfPair
open Go.RowKit Go.Proofs.YtjknlfgphlopnaaW.PrintWords Go.Proofs.YtjknlfgphlopnaaW.PrintLast Go.Proofs.YtjknlfgphlopnaaW.PrintMore
attribute [local go_sem] max2_int min2_int max_two min_two max_three min_three max_four min_four   -- for this text's walks alone
set_option linter.unusedVariables false
set_option linter.unusedSimpArgs false

/-! ### slices_Clone_int_int: function 127 -/
def slices_Clone_int_int.f (l0 : List Int) : Option (List Int) := if l0.length ≤ 100000 then some l0 else none
theorem clone_size {w : World} {j : Nat} {o : Obj} {ad : Addr} {v : Value} (h : w.cell? (ad.add j) = some v) : (w.alloc o).cell? (ad.add j) = some v := Go.Lib.cell?_alloc_some _ h
set_option maxHeartbeats 4000000 in
set_option maxRecDepth 100000 in
theorem slices_Clone_int_int.calls (A0 : Option Addr) (c0 : Nat) (l0 : List Int) (r : List Int) (w : World) (hr0 : Kd.C (Kd.int .i64) w A0 l0.length l0) (hc0 : l0.length ≤ c0) (h : slices_Clone_int_int.f l0 = some r) :
  Calls Try.prog 127 #[.slice A0 l0.length c0] w fun e w' => ∃ v0_ : Value, e = .returned (v0_) ∧ Kd.R (Kd.int .i64) 3 w' w.heap.size (fun _ => True) v0_ r ∧ Below w.heap.size w w' := by
 unfold slices_Clone_int_int.f at h
 by_cases hl : l0.length ≤ 100000
 ·rw [if_pos hl] at h
  have h := Option.some.inj h
  subst h
  cases A0 with
  | none =>
   have h0 : l0 = [] := by
    cases l0 with
    | nil => rfl
    | cons x t =>
     obtain ⟨ad, hA, _⟩ := Kd.at_int hr0 0 (by omega) (by simp)
     cases hA
   subst h0
   have q22 : ∀ (w : World) (a : Option Addr) (n c n' c' : Nat), (binOp .eql 26 (.slice a n c) (.slice none n' c')).run Try.prog w = .ok (.bool a.isNone) w := fun w a n c n' c' => Go.Lib.run_eql_slice_nil w _ _ a n c n' c' Try.underlying26
   clear hr0
   go_enter Try.func127, Try.ntmps127
   go_wp2
   go_ret
   exact ⟨_, rfl, Kd.R_nil _ _ _ _ _, Below.refl _ _⟩
  | some ad =>
   have q22 : ∀ (w : World) (a : Option Addr) (n c n' c' : Nat), (binOp .eql 26 (.slice a n c) (.slice none n' c')).run Try.prog w = .ok (.bool a.isNone) w := fun w a n c n' c' => Go.Lib.run_eql_slice_nil w _ _ a n c n' c' Try.underlying26
   have HN := Aside0.mk (show ∀ (j : Nat) (u : Value), (encs (Value.int .i64) l0)[j]? = some u → w.cell? (ad.add j) = some u by
    intro j u hj
    have hj' : j < l0.length := by
     have := (List.getElem?_eq_some_iff.1 hj).1
     rwa [encs_length] at this
    obtain ⟨ad', hA, hx⟩ := Kd.at_int hr0 (j : Int) (by omega) (by omega)
    have hA := Option.some.inj hA
    subst hA
    rw [Int.toNat_natCast] at hx
    rw [hx, ← hj, encs_get (d := 0) _ _ hj']
    rfl)
   have HL := Aside0.mk hl
   obtain ⟨i0, hi0, he0⟩ := Option.map_eq_some_iff.1 info3
   have hz0 : i0.zero = some (.int .i64 0) := congrArg (fun p => p.1) he0
   have hz1 : i0.size = 1 := congrArg (fun p => p.2.1) he0
   have hz2 : i0.bytes = 8 := congrArg (fun p => p.2.2) he0
   clear he0
   clear hr0
   go_enter Try.func127, Try.ntmps127
   go_wp2_with (at_builtin; refine wpList_append_own _ rfl _ _ 26 rfl w.heap.size 3 i0 (.int .i64 0) 1 8 Try.underlying26 hi0 hz0 hz1 hz2 rfl (by decide) _ _ _ rfl (World.ownsRow_made w #[] 0 (Nat.le_refl _) (Nat.zero_le _) rfl) ad l0.length c0 (encs (Value.int .i64) l0) rfl ?qc1 ?qc2 ?qc3 ?qc4 ?qc5 (by simp) ?_)
   case qc1 => simp [encs]
   case qc2 => exact fun j u hj => clone_size (HN.out j u hj)
   case qc3 => intro u hu; obtain ⟨x, _, rfl⟩ := List.mem_map.1 hu; rfl
   case qc4 => have := HL.out; unfold maxLen; omega
   case qc5 => have := HL.out; omega
   intro v' w1 hown hgrow hnil
   go_wp2
   go_ret
   refine ⟨v', rfl, Kd.R_of_own (by simpa using hown) (fun _ _ => trivial), ?_⟩
   exact ((Below.refl _ w).alloc (Nat.le_refl _) _).grown hgrow (by simp) (by intro k hk; simp [Value.ownBlock] at hk; omega)
 ·rw [if_neg hl] at h
  exact absurd h (by simp)

/-! ### impl_turnedFirst: function 81 -/
theorem impl_turnedFirst.add1 (ad : Addr) (k : Nat) : ad.add (k + 1) = ⟨(ad.add k).block, (ad.add k).off + 1, none⟩ := by
 unfold Addr.add
 by_cases h : k = 0
 ·subst h; rfl
 ·rw [if_neg (by omega), if_neg h]
  rfl
def impl_turnedFirst.go : Nat → List Int → List Int → Nat → Option (List Int)
 | 0, _, _, _ => none
 | k + 1, l, best, i => if i < l.length then ((slices_Concat_int_int.f [l.drop i, l.take i]).bind fun own => (slices_Compare_int_int.f k own best).bind fun c => if c < 0 then impl_turnedFirst.go k l own (i + 1) else impl_turnedFirst.go k l best (i + 1)) else some best
theorem impl_turnedFirst.put (w : World) (g : Nat) (y z : Value) : w.grownBy ((w.setCell ⟨g, 0, none⟩ y).setCell ⟨g, 1, none⟩ z) (some g) :=
 ⟨rfl, rfl, rfl, by simp, fun i hi e => (Below.heap_setCell _ _ _ _ (fun e2 => e (by rw [e2]))).trans (Below.heap_setCell _ _ _ _ (fun e2 => e (by rw [e2])))⟩
def impl_turnedFirst.f (k : Nat) (l0 : List (Int × Int)) : Option (List Int) := if l0.length ≤ 100000 then ((impl_turnedFirst.go k (l0.map Prod.fst) (l0.map Prod.fst) 0).bind fun b => slices_Clone_int_int.f b) else none
theorem impl_turnedFirst.mono_g : ∀ k l best i, LeO (impl_turnedFirst.go k l best i) (impl_turnedFirst.go (k + 1) l best i)
 | 0, l, best, i => fun r h => by simp [impl_turnedFirst.go] at h
 | k + 1, l, best, i => by
  rw [impl_turnedFirst.go, impl_turnedFirst.go]
  exact LeO.ite (LeO.bind (LeO.refl _) (fun own => LeO.bind (slices_Compare_int_int.mono _ _ _) (fun c => LeO.ite (impl_turnedFirst.mono_g k l own (i + 1)) (impl_turnedFirst.mono_g k l best (i + 1))))) (LeO.refl _)
theorem impl_turnedFirst.mono : ∀ l0 k, LeO (impl_turnedFirst.f k l0) (impl_turnedFirst.f (k + 1) l0) := by
 intro l0 k
 unfold impl_turnedFirst.f
 exact LeO.ite (LeO.bind (impl_turnedFirst.mono_g _ _ _ _) (fun b => LeO.refl _)) (LeO.none _)
theorem impl_turnedFirst.two {W : World} {A1 A2 : Option Addr} {n1 n2 c1 c2 : Nat} {x1 x2 : List Int} (h1 : (Kd.int .i64).C W A1 n1 x1) (h2 : (Kd.int .i64).C W A2 n2 x2) (l1 : n1 ≤ c1) (l2 : n2 ≤ c2) : Kd.C (Kd.slice 3 (Kd.int .i64)) (W.alloc (.cells #[.slice A1 n1 c1, .slice A2 n2 c2] 26 (0, 0))) (some ⟨W.heap.size, 0, none⟩) 2 [x1, x2] := by
 have b := below_alloc (Below.refl W.heap.size W) (.cells #[.slice A1 n1 c1, .slice A2 n2 c2] 26 (0, 0))
 have k1 := Kd.C_below h1 b
 have k2 := Kd.C_below h2 b
 have e1 := Kd.C_len h1
 have e2 := Kd.C_len h2
 subst e1
 subst e2
 have hb := blk_new W (.cells #[.slice A1 x1.length c1, .slice A2 x2.length c2] 26 (0, 0))
 have q0 := (blk_cell hb 0).trans (show (#[Value.slice A1 x1.length c1, .slice A2 x2.length c2] : Array Value)[0]? = some (.slice A1 x1.length c1) from rfl)
 have q1 := (blk_cell hb 1).trans (show (#[Value.slice A1 x1.length c1, .slice A2 x2.length c2] : Array Value)[1]? = some (.slice A2 x2.length c2) from rfl)
 refine ⟨rfl, by decide, fun _ => ⟨_, rfl, fun j p hj => ?_⟩⟩
 rcases j with _ | _ | j
 ·simp only [List.getElem?_cons_zero, Option.some.injEq] at hj
  subst hj
  refine ⟨[.slice A1 x1.length c1], rfl, ⟨A1, c1, rfl, l1, k1⟩, fun i u hu => ?_⟩
  rcases i with _ | i
  ·simp only [List.getElem?_cons_zero, Option.some.injEq] at hu
   subst hu
   exact q0
  ·simp at hu
 ·simp only [List.getElem?_cons_succ, List.getElem?_cons_zero, Option.some.injEq] at hj
  subst hj
  refine ⟨[.slice A2 x2.length c2], rfl, ⟨A2, c2, rfl, l2, k2⟩, fun i u hu => ?_⟩
  rcases i with _ | i
  ·simp only [List.getElem?_cons_zero, Option.some.injEq] at hu
   subst hu
   exact q1
  ·simp at hu
 ·simp at hj
set_option maxHeartbeats 4000000 in
set_option maxRecDepth 100000 in
theorem impl_turnedFirst.calls (k : Nat) (A0 : Option Addr) (c0 : Nat) (l0 : List (Int × Int)) (r : List Int) (w : World) (hr0 : Kd.C (Kd.pair (Kd.int .i64) (Kd.int .i64)) w A0 l0.length l0) (hc0 : l0.length ≤ c0) (h : impl_turnedFirst.f k l0 = some r) :
  Calls Try.prog 81 #[.slice A0 l0.length c0] w fun e w' => ∃ v0_ : Value, e = .returned (v0_) ∧ Kd.R (Kd.int .i64) 3 w' w.heap.size (fun _ => True) v0_ r ∧ Below w.heap.size w w' := by
 unfold impl_turnedFirst.f at h
 by_cases hl : l0.length ≤ 100000
 case neg => rw [if_neg hl] at h; cases h
 rw [if_pos hl] at h
 obtain ⟨best, G_, K_⟩ := Option.bind_eq_some_iff.mp h
 have HL := Aside0.mk hl
 have HG := Aside0.mk G_
 have HC := Aside0.mk K_
 have HR0 := Aside0.mk hr0
 have HB := Aside0.mk (Below.refl w.heap.size w)
 clear h hl G_ K_ hr0
 go_enter Try.func81, Try.ntmps81
 go_wp2_with (first
  | ((with_reducible refine gate_dst (N := 9) rfl ?_); refine Kd.R_lit (Kd.int .i64) (w0 := w) w.heap.size 3 ?hg (N := 9) ?hd (xs := ([] : List Int)) (inner := []) (ok := fun _ => True) (okp := fun _ => True) ?hr ?hp (fun _ hk => hk) trivial (Below.refl _ _) (Nat.le_refl _) (by simp) ?_; (case hd => rfl); (case hg => rfl); (case hr => first | (go_simp; done) | (go_simp; rfl)); (case hp => exact Reps.none _ _); intro v9 w9 ho hb hg_ hnew_; clear HB; have HB := Aside0.mk hb; have HO := Aside0.mk ho; clear ho hb hg_ hnew_))
 go_loopg [3, 12] l0.length (fun kq v3 v12 w' => ∃ (x : Int), v12 = .int .i64 x ∧ Aside0 (0 ≤ x ∧ x ≤ (l0.length : Int) ∧ (l0.length : Int) - x ≤ kq) ∧ Aside0 (Kd.R (Kd.int .i64) 3 w' w.heap.size (fun _ => True) v3 ((l0.take x.toNat).map Prod.fst)) ∧ Aside0 (Below w.heap.size w w'))
 case atStart => exact ⟨0, rfl, ⟨by omega, by omega, by omega⟩, HO, HB⟩
 case round =>
  clear HO HB
  obtain ⟨x, rfl, HX, HO, HB⟩ := hrel
  by_cases c5 : x < (l0.length : Int)
  ·have c5b0 : decide (x < (l0.length : Int)) = true := decide_eq_true c5
   have p0 : 0 ≤ x := HX.out.1
   obtain ⟨ad, c, e_, hcl_, hK_, hcc_⟩ := Kd.C_get (Kd.C_below HR0.out HB.out) (0, 0) x p0 c5
   obtain ⟨u0, u1, rfl, h0_, h1_⟩ := hK_
   have hu0 : u0 = [.int .i64 (l0.getD x.toNat (0, 0)).1] := h0_
   have hu1 : u1 = [.int .i64 (l0.getD x.toNat (0, 0)).2] := h1_
   subst hu0
   subst hu1
   clear h0_ h1_ hcl_
   cases e_
   have ht : (l0.take (x + 1).toNat).map Prod.fst = (l0.take x.toNat).map Prod.fst ++ [(l0.getD x.toNat (0, 0)).1] := by
    have hx : x.toNat < l0.length := by omega
    rw [show (x + 1).toNat = x.toNat + 1 by omega, List.take_succ_eq_append_getElem hx, List.map_append, List.getD_eq_getElem?_getD, List.getElem?_eq_getElem hx]
    rfl
   obtain ⟨⟨y, z⟩, hyz⟩ : ∃ p, l0.getD x.toNat (0, 0) = p := ⟨_, rfl⟩
   rw [hyz] at hcc_ ht
   have NT := Aside0.mk ht
   clear hyz ht
   obtain ⟨q, hq⟩ : ∃ q, (l0.take x.toNat).map Prod.fst = q := ⟨_, rfl⟩
   rw [hq] at HO NT
   have QL := Aside0.mk (show q.length ≤ 100000 by rw [← hq, List.length_map, List.length_take]; have := HL.out; omega)
   clear hq
   have e0 : wr.cell? (ad.add (x.toNat * 2)) = some (.int .i64 y) := hcc_ 0 _ rfl
   have e1 : wr.cell? ⟨(ad.add (x.toNat * 2)).block, (ad.add (x.toNat * 2)).off + 1, none⟩ = some (.int .i64 z) := impl_turnedFirst.add1 ad (x.toNat * 2) ▸ hcc_ 1 _ rfl
   clear hcc_
   have hw1 : wrap64 (x + 1) = x + 1 := by have := HL.out; unfold wrap64; omega
   have HW := Aside0.mk hw1
   clear hw1
   have C5 := Aside0.mk c5
   replace p0 := eq_true p0
   replace c5 := eq_true c5
   obtain ⟨Aq, cq, eq_⟩ := Kd.R_slice HO.out
   subst eq_
   go_wp2_with (first
    | ((with_reducible refine gate_dst (N := 5) rfl ?_); refine box_event ?hg (N := 5) ?hd (cs := #[.int .i64 0, .int .i64 0]) (t := 75) ?hr ?_; (case hd => rfl); (case hg => rfl); (case hr => first | (go_simp; done) | (go_simp; rfl)); intro gp hgp w6 hbp hb; have GP := Aside0.mk (show w.heap.size ≤ gp by rw [hgp]; exact below_size HB.out); have m0_ := Aside0.mk (below_step HB.out hb); have m1_ := Aside0.mk (Kd.R_below HO.out hb); clear HB HO hgp hb e0 e1; have HB := m0_; have HO := m1_; clear m0_ m1_; have PB := Aside0.mk hbp; have q0 := (blk_cell hbp 0).trans (show (#[Value.int .i64 0, .int .i64 0] : Array Value)[0]? = some (.int .i64 0) from rfl); have q1 := (blk_cell hbp 1).trans (show (#[Value.int .i64 0, .int .i64 0] : Array Value)[1]? = some (.int .i64 0) from rfl); have f0 := blk_frozen hbp 0; have f1 := blk_frozen hbp 1; clear hbp)
    | ((with_reducible refine gate_dst (N := 17) rfl ?_); clear q0 q1 f0 f1; have HB2 := Aside0.mk (below_set (below_set HB.out GP.out) GP.out : Below w.heap.size w ((w6.setCell ⟨gp, 0, none⟩ (.int .i64 y)).setCell ⟨gp, 1, none⟩ (.int .i64 z))); have HO2 := Aside0.mk (Kd.R_mono (Kd.R_grown (Kd.R_tight rfl HO.out) (impl_turnedFirst.put w6 gp (.int .i64 y) (.int .i64 z)) (fun k_ hk_ e_ => Kd.R_ne HO.out PB.out (by decide) (e_.symm.trans hk_))) (fun _ _ => trivial)); have c7 : ((w6.setCell ⟨gp, 0, none⟩ (.int .i64 y)).setCell ⟨gp, 1, none⟩ (.int .i64 z)).cell? ⟨gp, 0, none⟩ = some (.int .i64 y) := (blk_cell (blk_set (blk_set PB.out 0 _) 1 _) 0).trans rfl; generalize ((w6.setCell ⟨gp, 0, none⟩ (.int .i64 y)).setCell ⟨gp, 1, none⟩ (.int .i64 z)) = w7 at HB2 HO2 c7 ⊢)
    | ((with_reducible refine gate_builtin (b := .append) (xs := #[.tmp 16, .tmp 19]) rfl ?_); at_builtin; refine Kd.R_append (Kd.int .i64) (W := w7) (w0 := w) w.heap.size rfl (.tmp 16) (.tmp 19) 26 3 (.int .i64 0) 8 rfl Try.underlying26 info3 rfl (by decide) (by omega) (.slice Aq q.length cq) q y [.int .i64 y] (fun _ => True) (fun _ => False) rfl rfl ?aP (fun _ hk => hk.elim) (fun _ _ => trivial) ?aO ?aB ?aS ?aL ?_; (case aP => exact rfl); (case aB => exact HB2.out); (case aO => exact HO2.out); (case aS => exact below_size HB2.out); (case aL => have := QL.out; omega); intro v20 w11 ho_ hb_ hg_ hat_; rw [← NT.out] at ho_; clear HB HO HB2 HO2 c7; have HB := Aside0.mk hb_; have HO := Aside0.mk ho_; clear ho_ hb_ hg_ hat_))
   go_roundg (gk - 1)
   case measure => have := C5.out; have := HX.out; omega
   case rel => exact ⟨x + 1, by first | rfl | rw [HW.out], ⟨by have := HX.out; omega, by have := C5.out; omega, by have := HX.out; have := C5.out; omega⟩, HO, HB⟩
  ·have c5b0 : decide (x < (l0.length : Int)) = false := decide_eq_false c5
   have e_ : l0.take x.toNat = l0 := List.take_of_length_le (by have := HX.out; omega)
   rw [e_] at HO
   obtain ⟨l, hl⟩ : ∃ l, l0.map Prod.fst = l := ⟨_, rfl⟩
   rw [hl] at HO HG
   have LL := Aside0.mk (show l.length ≤ 100000 by rw [← hl, List.length_map]; exact HL.out)
   clear e_ hl HX c5
   obtain ⟨A3, c3, e3_⟩ := Kd.R_slice HO.out
   subst e3_
   have L3 := Aside0.mk (Kd.R_reads' HO.out).2.1
   have C3 := Aside0.mk (Kd.R_reads' HO.out).2.2
   clear HO
   go_wp2
   go_loopg [6, 25] k (fun kq v6 v25 w' => ∃ (bst : List Int) (i : Nat) (A6 : Option Addr) (c6 : Nat), v6 = .slice A6 bst.length c6 ∧ v25 = .int .i64 (i : Int) ∧ Aside0 ((Kd.int .i64).C w' A6 bst.length bst ∧ bst.length ≤ c6) ∧ Aside0 (impl_turnedFirst.go kq l bst i = some best) ∧ Aside0 (Below w.heap.size w w') ∧ Aside0 ((Kd.int .i64).C w' A3 l.length l))
   case atStart => exact ⟨l, 0, A3, c3, rfl, rfl, ⟨C3.out, L3.out⟩, HG, HB, C3⟩
   case round =>
    clear HG HB C3
    obtain ⟨bst, i, A6, c6, rfl, rfl, HS, HG, HB, C3⟩ := hrel
    cases gk with
    | zero => exact absurd HG.out (by simp [impl_turnedFirst.go])
    | succ k1 =>
     have H := HG.out
     clear HG
     simp only [impl_turnedFirst.go] at H
     by_cases c5 : i < l.length
     ·rw [if_pos c5] at H
      have c5b0 : decide ((i : Int) < (l.length : Int)) = true := decide_eq_true (by omega)
      have c5b1 : decide (i < l.length) = true := decide_eq_true c5
      obtain ⟨own, A1_, H1⟩ := Option.bind_eq_some_iff.mp H
      obtain ⟨c, A2_, H2⟩ := Option.bind_eq_some_iff.mp H1
      have A1 := Aside0.mk A1_
      have A2 := Aside0.mk A2_
      have LI := Aside0.mk c5
      have hci : (0 : Int) ≤ (i : Int) := by omega
      have hcl : (i : Int) ≤ (l.length : Int) := by omega
      have hcc : (i : Int) ≤ (c3 : Int) := by have := L3.out; omega
      have hw1 : wrap64 ((i : Int) + 1) = ((i + 1 : Nat) : Int) := by have := LL.out; unfold wrap64; omega
      have HW := Aside0.mk hw1
      clear H H1 A1_ A2_ c5 hw1
      go_upto_region 11 with (first | fail)
      refine start_ (n := 9) (S := fun w' => True) (ds := []) #[false, false, false, false, false, false, false, false, false] (by kernel_rfl) rfl rfl trivial (fun hHeld => ?_)
      refine pure_ (i := 0) (N := some 28) (v := ?_) (a' := ?_) #[true, false, false, false, false, false, false, false, false] rfl rfl (by kernel_rfl) (fun _ _ _ h => h) (Or.inl ⟨by rfl, ?_⟩) ?_ ?_
      rotate_left
      ·intro w'
       go_simp
       with_reducible rfl
      rotate_left
      ·simp only [Act.put, List.setIfInBounds_toArray, List.set_cons_zero, List.set_cons_succ, i64_w, i32_w]
       rfl
      refine pure_ (i := 1) (N := some 29) (v := ?_) (a' := ?_) #[true, true, false, false, false, false, false, false, false] rfl rfl (by kernel_rfl) (fun _ _ _ h => h) (Or.inl ⟨by rfl, ?_⟩) ?_ ?_
      rotate_left
      ·intro w'
       go_simp
       with_reducible rfl
      rotate_left
      ·simp only [Act.put, List.setIfInBounds_toArray, List.set_cons_zero, List.set_cons_succ, i64_w, i32_w]
       rfl
      refine pure_ (i := 2) (N := some 30) (v := ?_) (a' := ?_) #[true, true, true, false, false, false, false, false, false] rfl rfl (by kernel_rfl) (fun _ _ _ h => h) (Or.inl ⟨by rfl, ?_⟩) ?_ ?_
      rotate_left
      ·intro w'
       go_simp
       with_reducible rfl
      rotate_left
      ·simp only [Act.put, List.setIfInBounds_toArray, List.set_cons_zero, List.set_cons_succ, i64_w, i32_w]
       rfl
      refine pure_ (i := 3) (N := some 31) (v := ?_) (a' := ?_) #[true, true, true, true, false, false, false, false, false] rfl rfl (by kernel_rfl) (fun _ _ _ h => h) (Or.inl ⟨by rfl, ?_⟩) ?_ ?_
      rotate_left
      ·intro w'
       go_simp
       with_reducible rfl
      rotate_left
      ·simp only [Act.put, List.setIfInBounds_toArray, List.set_cons_zero, List.set_cons_succ, i64_w, i32_w]
       rfl
      refine pure_ (i := 4) (N := some 32) (v := ?_) (a' := ?_) #[true, true, true, true, true, false, false, false, false] rfl rfl (by kernel_rfl) (fun _ _ _ h => h) (Or.inl ⟨by rfl, ?_⟩) ?_ ?_
      rotate_left
      ·intro w'
       go_simp
       with_reducible rfl
      rotate_left
      ·simp only [Act.put, List.setIfInBounds_toArray, List.set_cons_zero, List.set_cons_succ, i64_w, i32_w]
       rfl
      refine pure_ (i := 5) (N := some 33) (v := ?_) (a' := ?_) #[true, true, true, true, true, true, false, false, false] rfl rfl (by kernel_rfl) (fun _ _ _ h => h) (Or.inl ⟨by rfl, ?_⟩) ?_ ?_
      rotate_left
      ·intro w'
       go_simp
       with_reducible rfl
      rotate_left
      ·simp only [Act.put, List.setIfInBounds_toArray, List.set_cons_zero, List.set_cons_succ, i64_w, i32_w]
       rfl
      refine one_ (i := 6) (N := some 34) #[true, true, true, true, true, true, true, false, false] rfl rfl (by kernel_rfl) (by decide) (fun K hK => ?_)
      refine value_ (w1 := ?_) (v := ?_) (by rfl) rfl ?_ ?_
      rotate_left 2
      ·go_simp
       constructor
       ·rfl
       ·rfl
      have C1_ := Aside0.mk (Kd.C_below C3.out (below_drew (Below.refl _ _)))
      have D1_ := Aside0.mk (show Kd.C (Kd.int .i64) wr.drew (if c3 = i then A3 else Option.map (fun x => x.add i) A3) (l.length - i) (l.drop i) by have h_ := Kd.C_drop (m := i) (c := c3) C1_.out (by have := LI.out; omega) L3.out; rw [List.length_drop, show i * (Kd.int .i64).sz = i from Nat.mul_one i] at h_; exact h_)
      have D2_ := Aside0.mk (show Kd.C (Kd.int .i64) wr.drew A3 i (l.take i) by have h_ := Kd.C_take (m := i) C1_.out (by have := LI.out; omega); rw [show (l.take i).length = i by rw [List.length_take]; have := LI.out; omega] at h_; exact h_)
      have CT := Aside0.mk (impl_turnedFirst.two (c1 := c3 - i) (c2 := c3) D1_.out D2_.out (by have := L3.out; omega) (by have := L3.out; have := LI.out; omega))
      have HK := Aside0.mk (show Calls Try.prog 71 #[.slice (some ⟨wr.heap.size, 0, none⟩) 2 2] (wr.alloc (.cells #[(.slice (if c3 = i then A3 else Option.map (fun x => x.add i) A3) (l.length - i) (c3 - i)), .slice A3 i c3] 26 (0, 0))).drew _ from slices_Concat_int_int.calls (some ⟨wr.heap.size, 0, none⟩) 2 [l.drop i, l.take i] own _ CT.out (by simp) A1.out)
      refine hK.out _ _ trivial (fun hHeld => ?_)
      clear hK K
      refine norm_ (a' := ?_) ?_ ?_
      rotate_left
      ·show Act.put _ (some 34) _ = _
       simp only [Act.put, List.setIfInBounds_toArray, List.set_cons_zero, List.set_cons_succ, i64_w, i32_w]
       rfl
      refine one_ (i := 7) (N := some 35) #[true, true, true, true, true, true, true, true, false] rfl rfl (by kernel_rfl) (by decide) (fun K hK => ?_)
      refine goes_ Try.func71 (by kernel_rfl) rfl #[.slice (some ⟨wr.heap.size, 0, none⟩) 2 2] (by rfl) rfl rfl (by simp only [List.map_toArray, List.map_cons, List.map_nil]; rfl) ?_
      with_reducible refine (HK.out).mono ?_
      rintro e w3 ⟨v35, rfl, hr, hb⟩
      refine ⟨_, rfl, ?_⟩
      have B3 := Aside0.mk (below_step (below_alloc (below_drew (Below.refl _ _)) _ : Below wr.heap.size wr _) hb)
      have HO := Aside0.mk hr
      clear hr hb
      refine hK.out _ _ trivial (fun hHeld => ?_)
      clear hK K
      refine norm_ (a' := ?_) ?_ ?_
      rotate_left
      ·show Act.put _ (some 35) _ = _
       simp only [Act.put, List.setIfInBounds_toArray, List.set_cons_zero, List.set_cons_succ, i64_w, i32_w]
       rfl
      refine pure_ (i := 8) (N := some 8) (v := ?_) (a' := ?_) #[true, true, true, true, true, true, true, true, true] rfl rfl (by kernel_rfl) (fun _ _ _ h => h) (Or.inl ⟨by rfl, ?_⟩) ?_ ?_
      rotate_left
      ·intro w'
       go_simp
       with_reducible rfl
      rotate_left
      ·simp only [Act.put, List.setIfInBounds_toArray, List.set_cons_zero, List.set_cons_succ, i64_w, i32_w]
       rfl
      refine done_ (by kernel_rfl) ?_
      by_cases c7 : c < 0
      ·rw [if_pos c7] at H2
       have c7b : decide (c < 0) = true := decide_eq_true c7
       have H2 := Aside0.mk H2
       clear c7
       generalize (if c3 = i then A3 else Option.map (fun x => x.add i) A3) = A30_
       obtain ⟨A8, c8, e8_⟩ := Kd.R_slice HO.out
       subst e8_
       have CB := Aside0.mk (Kd.C_below HS.out.1 B3.out)
       have COwn := Aside0.mk (Kd.R_reads' HO.out).2
       have HBn := Aside0.mk (below_step HB.out B3.out)
       have C3n := Aside0.mk (Kd.C_below C3.out B3.out)
       go_wp2_with (first | (go_at_call 126; ((with_reducible refine (slices_Compare_int_int.calls k1 A8 c8 own A6 c6 bst c _ COwn.out.2 COwn.out.1 CB.out HS.out.2 A2.out).mono ?_); rintro e w5 ⟨rfl, ⟨nd, rfl⟩⟩)))
       go_roundg k1
       case measure => omega
       case rel => exact ⟨own, i + 1, _, _, rfl, by first | rfl | rw [HW.out], ⟨Kd.C_below COwn.out.2 (pw_below_drewN (Below.refl _ _) nd), COwn.out.1⟩, H2, ⟨pw_below_drewN HBn.out nd⟩, ⟨Kd.C_below C3n.out (pw_below_drewN (Below.refl _ _) nd)⟩⟩
      ·rw [if_neg c7] at H2
       have c7b : decide (c < 0) = false := decide_eq_false c7
       have H2 := Aside0.mk H2
       clear c7
       generalize (if c3 = i then A3 else Option.map (fun x => x.add i) A3) = A30_
       obtain ⟨A8, c8, e8_⟩ := Kd.R_slice HO.out
       subst e8_
       have CB := Aside0.mk (Kd.C_below HS.out.1 B3.out)
       have COwn := Aside0.mk (Kd.R_reads' HO.out).2
       have HBn := Aside0.mk (below_step HB.out B3.out)
       have C3n := Aside0.mk (Kd.C_below C3.out B3.out)
       go_wp2_with (first | (go_at_call 126; ((with_reducible refine (slices_Compare_int_int.calls k1 A8 c8 own A6 c6 bst c _ COwn.out.2 COwn.out.1 CB.out HS.out.2 A2.out).mono ?_); rintro e w5 ⟨rfl, ⟨nd, rfl⟩⟩)))
       go_roundg k1
       case measure => omega
       case rel => exact ⟨bst, i + 1, _, _, rfl, by first | rfl | rw [HW.out], ⟨Kd.C_below CB.out (pw_below_drewN (Below.refl _ _) nd), HS.out.2⟩, H2, ⟨pw_below_drewN HBn.out nd⟩, ⟨Kd.C_below C3n.out (pw_below_drewN (Below.refl _ _) nd)⟩⟩
     ·rw [if_neg c5] at H
      have c5b0 : decide ((i : Int) < (l.length : Int)) = false := decide_eq_false (by omega)
      have c5b1 : decide (i < l.length) = false := decide_eq_false c5
      obtain rfl := Option.some.inj H
      clear H c5
      go_wp2_with (first | (go_at_call 127; ((with_reducible refine (slices_Clone_int_int.calls A6 c6 bst r _ HS.out.1 HS.out.2 HC.out).mono ?_); rintro e w4 ⟨v2, rfl, hr, hb⟩; have HR := Aside0.mk (Kd.R_lower hr (below_size HB.out)); have m0_ := Aside0.mk (below_step HB.out hb); clear HB hb hr; have HB := m0_; clear m0_)))
      go_ret
      exact ⟨v2, rfl, HR.out, HB.out⟩

/-! ### impl_CycleOfPair: function 37 -/
def impl_CycleOfPair.j0 : Nat → Int → Int → Int → Bool → Int → Int → Int → Int → Int → Bool → Option (List Int × Bool)
 | 0, _, _, _, _, _, _, _, _, _, _ => none
 | k + 1, x1, x2, x3, x22, x250000, x250001, x250002, x250003, x250004, x250005 => if x22 = true then (some (([] : List Int), false)) else ((impl_Second_history.f k x250000 x250001 x250002 x250003 x250004 x250005 x1 x2 x3).bind fun bt252 => (if bt252.2.2 = true then (if 0 ≤ bt252.2.1 then (if bt252.2.1 ≤ (bt252.1.length : Int) then ((impl_turnedFirst.f k (bt252.1.drop (bt252.2.1 : Int).toNat)).bind fun t261 => (some (t261, true))) else (none)) else (none)) else (some (([] : List Int), false))))
def impl_CycleOfPair.f (k : Nat) (a0_0 : Int) (a0_1 : Int) (a0_2 : Int) (a0_3 : Int) (a0_4 : Int) (a0_5 : Bool) (a1 : Int) (a2 : Int) (a3 : Int) : Option (List Int × Bool) := (impl_Second_isAt.f a0_0 a0_1 a0_2 a0_3 a0_4 a0_5 a1 a2).bind fun t250 => (if t250 = true then ((impl_isSample.f a3).bind fun t251 => (impl_CycleOfPair.j0 k a1 a2 a3 (!t251) a0_0 a0_1 a0_2 a0_3 a0_4 a0_5)) else (impl_CycleOfPair.j0 k a1 a2 a3 true a0_0 a0_1 a0_2 a0_3 a0_4 a0_5))
theorem impl_CycleOfPair.mono_l : ∀ k, (∀ y0 y1 y2 y3 y4 y5 y6 y7 y8 y9, LeO (impl_CycleOfPair.j0 k y0 y1 y2 y3 y4 y5 y6 y7 y8 y9) (impl_CycleOfPair.j0 (k + 1) y0 y1 y2 y3 y4 y5 y6 y7 y8 y9))
 | 0 => fun _ _ _ _ _ _ _ _ _ _ r h => by simp [impl_CycleOfPair.j0] at h
 | k + 1 => by
  have ih0 := impl_CycleOfPair.mono_l k
  ·intro y0 y1 y2 y3 y4 y5 y6 y7 y8 y9
   unfold impl_CycleOfPair.j0
   repeat' first
   | (with_reducible exact ih0 _ _ _ _ _ _ _ _ _ _)
   | (with_reducible exact impl_Second_history.mono _ _ _ _ _ _ _ _ _ _)
   | (with_reducible exact impl_turnedFirst.mono _ _)
   | (with_reducible exact LeO.refl _)
   | (with_reducible exact LeO.none _)
   | (with_reducible refine LeO.ite ?_ ?_)
   | (with_reducible refine LeO.bind ?_ (fun _ => ?_))
   | exact ih0 _ _ _ _ _ _ _ _ _ _
   | exact impl_Second_history.mono _ _ _ _ _ _ _ _ _ _
   | exact impl_turnedFirst.mono _ _
   | exact LeO.none _
   | refine LeO.ite ?_ ?_
   | refine LeO.bind ?_ (fun _ => ?_)
theorem impl_CycleOfPair.mono : ∀ a0 a1 a2 a3 a4 a5 a6 a7 a8 k, LeO (impl_CycleOfPair.f k a0 a1 a2 a3 a4 a5 a6 a7 a8) (impl_CycleOfPair.f (k + 1) a0 a1 a2 a3 a4 a5 a6 a7 a8) := by
 intro a0 a1 a2 a3 a4 a5 a6 a7 a8 k
 have ih0 := impl_CycleOfPair.mono_l k
 unfold impl_CycleOfPair.f
 repeat' first
   | (with_reducible exact ih0 _ _ _ _ _ _ _ _ _ _)
   | (with_reducible exact impl_Second_history.mono _ _ _ _ _ _ _ _ _ _)
   | (with_reducible exact impl_turnedFirst.mono _ _)
   | (with_reducible exact LeO.refl _)
   | (with_reducible exact LeO.none _)
   | (with_reducible refine LeO.ite ?_ ?_)
   | (with_reducible refine LeO.bind ?_ (fun _ => ?_))
   | exact ih0 _ _ _ _ _ _ _ _ _ _
   | exact impl_Second_history.mono _ _ _ _ _ _ _ _ _ _
   | exact impl_turnedFirst.mono _ _
   | exact LeO.none _
   | refine LeO.ite ?_ ?_
   | refine LeO.bind ?_ (fun _ => ?_)
set_option maxHeartbeats 8000000 in
set_option maxRecDepth 100000 in
theorem impl_CycleOfPair.calls (k : Nat) (a0_0 : Int) (a0_1 : Int) (a0_2 : Int) (a0_3 : Int) (a0_4 : Int) (a0_5 : Bool) (a1 : Int) (a2 : Int) (a3 : Int) (r1 : List Int) (r2 : Bool) (w : World) (h : impl_CycleOfPair.f k a0_0 a0_1 a0_2 a0_3 a0_4 a0_5 a1 a2 a3 = some (r1, r2)) :
  Calls Try.prog 37 #[.agg #[.int .i64 a0_0, .int .i64 a0_1, .int .i64 a0_2, .int .i64 a0_3, .int .i64 a0_4, .bool a0_5], .int .i64 a1, .int .i64 a2, .int .i64 a3] w fun e w' => ∃ v0_ : Value, e = .returned (.tuple #[v0_, .bool r2]) ∧ Kd.R (Kd.int .i64) 3 w' w.heap.size (fun _ => True) v0_ r1 ∧ Below w.heap.size w w' := by
 have hu40 := Try.underlying40
 have hu75 := Try.underlying75
 have HB := Aside0.mk (Below.refl w.heap.size w)
 have H : ((impl_Second_isAt.f a0_0 a0_1 a0_2 a0_3 a0_4 a0_5 a1 a2).bind fun t250 => (if t250 = true then ((impl_isSample.f a3).bind fun t251 => (impl_CycleOfPair.j0 k a1 a2 a3 (!t251) a0_0 a0_1 a0_2 a0_3 a0_4 a0_5)) else (impl_CycleOfPair.j0 k a1 a2 a3 true a0_0 a0_1 a0_2 a0_3 a0_4 a0_5))) = some (r1, r2) := h
 clear h
 have HC5 := Aside0.mk H
 clear H
 go_enter Try.func37, Try.ntmps37
 go_upto_region 1 with (first | ((with_reducible refine gate_dst (N := 4) rfl ?_); refine box_event ?hg (N := 4) ?hd (cs := #[.int .i64 a0_0, .int .i64 a0_1, .int .i64 a0_2, .int .i64 a0_3, .int .i64 a0_4, .bool a0_5]) (t := 40) ?hr ?_; (case hd => rfl); (case hg => rfl); (case hr => first | (go_simp; done) | (go_simp; rfl)); intro gb249 hg w6 hbox hb; have n0_ := Aside0.mk (below_step (by repeat (first | exact HB.out | apply below_alloc | apply pw_below_drewN | apply below_drew1)) hb); have n1_ := Aside0.mk (hbox); have n2_ := Aside0.mk ((by rw [hg]; exact (below_size (by repeat (first | exact HB.out | apply below_alloc | apply pw_below_drewN | apply below_drew1))) : w.heap.size ≤ gb249)); have n3_ := Aside0.mk ((by rw [hg]; exact (below_size (by repeat (first | exact HB.out | apply below_alloc | apply pw_below_drewN | apply below_drew1))) : w.heap.size ≤ gb249)); clear HB; have HB := n0_; have BK249 := n1_; have GW249 := n2_; have GE249 := n3_; clear n0_ n1_ n2_ n3_; clear hb hbox hg))
 (try simp only [Act.put, List.setIfInBounds_toArray, List.set_cons_zero, List.set_cons_succ])
 go_cut [22] (fun v22 wc => ∃ (kq : Nat) (x22_4 : Bool), v22 = .bool x22_4 ∧ Aside0 (impl_CycleOfPair.j0 kq a1 a2 a3 x22_4 a0_0 a0_1 a0_2 a0_3 a0_4 a0_5 = some (r1, r2)) ∧ Aside0 (kq ≤ k) ∧ Aside0 (wc.heap[gb249]? = some (.cells #[.int .i64 a0_0, .int .i64 a0_1, .int .i64 a0_2, .int .i64 a0_3, .int .i64 a0_4, .bool a0_5] 40 (0, 0))) ∧ Aside0 (Below w.heap.size w wc))
 case first =>
  have H := HC5.out
  clear HC5
  replace H := Option.bind_eq_some_iff.mp H
  obtain ⟨t250, A70, H⟩ := H
  replace H : (if t250 = true then ((impl_isSample.f a3).bind fun t251 => (impl_CycleOfPair.j0 k a1 a2 a3 (!t251) a0_0 a0_1 a0_2 a0_3 a0_4 a0_5)) else (impl_CycleOfPair.j0 k a1 a2 a3 true a0_0 a0_1 a0_2 a0_3 a0_4 a0_5)) = some (r1, r2) := H
  have A7 := Aside0.mk A70
  clear A70
  by_cases c8 : t250 = true
  ·subst c8
   have H1 : ((impl_isSample.f a3).bind fun t251 => (impl_CycleOfPair.j0 k a1 a2 a3 (!t251) a0_0 a0_1 a0_2 a0_3 a0_4 a0_5)) = some (r1, r2) := by rw [if_pos rfl] at H; exact H
   clear H
   have H := H1
   clear H1
   replace H := Option.bind_eq_some_iff.mp H
   obtain ⟨t251, A90, H⟩ := H
   replace H : (impl_CycleOfPair.j0 k a1 a2 a3 (!t251) a0_0 a0_1 a0_2 a0_3 a0_4 a0_5) = some (r1, r2) := H
   have A9 := Aside0.mk A90
   clear A90
   have H' := Aside0.mk H
   clear H
   have hcz10_0 : w6.cell? ⟨gb249, 0, none⟩ = some (.int .i64 a0_0) := (blk_cell BK249.out 0).trans rfl
   have hcz10_1 : w6.cell? ⟨gb249, 1, none⟩ = some (.int .i64 a0_1) := (blk_cell BK249.out 1).trans rfl
   have hcz10_2 : w6.cell? ⟨gb249, 2, none⟩ = some (.int .i64 a0_2) := (blk_cell BK249.out 2).trans rfl
   have hcz10_3 : w6.cell? ⟨gb249, 3, none⟩ = some (.int .i64 a0_3) := (blk_cell BK249.out 3).trans rfl
   have hcz10_4 : w6.cell? ⟨gb249, 4, none⟩ = some (.int .i64 a0_4) := (blk_cell BK249.out 4).trans rfl
   have hcz10_5 : w6.cell? ⟨gb249, 5, none⟩ = some (.bool a0_5) := (blk_cell BK249.out 5).trans rfl
   have hfz10_0 := blk_frozen BK249.out 0
   have hfz10_1 := blk_frozen BK249.out 1
   have hfz10_2 := blk_frozen BK249.out 2
   have hfz10_3 := blk_frozen BK249.out 3
   have hfz10_4 := blk_frozen BK249.out 4
   have hfz10_5 := blk_frozen BK249.out 5
   go_wp2_with (first | ((with_reducible refine gate_callee (f := 53) rfl ?_); refine goesL_ (some 16) rfl rfl Try.func53 (by kernel_rfl) rfl #[.agg #[.int .i64 a0_0, .int .i64 a0_1, .int .i64 a0_2, .int .i64 a0_3, .int .i64 a0_4, .bool a0_5], .int .i64 a1, .int .i64 a2] rfl (by (try simp only [List.map_toArray, List.map_cons, List.map_nil]); first | done | rfl) ?_; (with_reducible refine (impl_Second_isAt.calls a0_0 a0_1 a0_2 a0_3 a0_4 a0_5 a1 a2 true _ A7.out).mono ?_); rintro e w11 ⟨rfl, hb⟩; refine ⟨_, rfl, ?_⟩; have n0_ := Aside0.mk (blk_below (g := gb249) (o := .cells #[.int .i64 a0_0, .int .i64 a0_1, .int .i64 a0_2, .int .i64 a0_3, .int .i64 a0_4, .bool a0_5] 40 (0, 0)) (by (with_reducible repeat (first | refine blk_drewN ?_ _ | refine blk_drew ?_ | refine blk_alloc ?_ _)); exact BK249.out) hb); have n1_ := Aside0.mk (below_step (by repeat (first | (with_reducible first | exact HB.out | apply below_alloc | apply pw_below_drewN | apply below_drew1 | refine below_set ?_ GE249.out) | exact HB.out)) hb); clear BK249; clear HB; have BK249 := n0_; have HB := n1_; clear n0_ n1_; (try clear hb); (try clear hb2); (try clear hk); (try clear hi)) | (go_at_call 79; (with_reducible refine (impl_isSample.calls a3 t251 _ A9.out).mono ?_); rintro e w' ⟨rfl, ⟨nd, rfl⟩⟩))
   go_meet
   case rel => exact ⟨_, (!t251), (by first | rfl | (simp [*]; done)), H', ⟨by first | omega | exact Nat.le_refl _⟩, ⟨by (with_reducible repeat (first | refine blk_drewN ?_ _ | refine blk_drew ?_ | refine blk_alloc ?_ _)); exact BK249.out⟩, ⟨by repeat (first | (with_reducible first | exact HB.out | apply below_alloc | apply pw_below_drewN | apply below_drew1 | refine below_set ?_ GE249.out) | exact HB.out)⟩⟩
  ·replace c8 := Bool.eq_false_iff.mpr c8
   subst c8
   have H1 : (impl_CycleOfPair.j0 k a1 a2 a3 true a0_0 a0_1 a0_2 a0_3 a0_4 a0_5) = some (r1, r2) := by rw [if_neg (show ¬ (false = true) by decide)] at H; exact H
   clear H
   have H := H1
   clear H1
   have H' := Aside0.mk H
   clear H
   have hcz12_0 : w6.cell? ⟨gb249, 0, none⟩ = some (.int .i64 a0_0) := (blk_cell BK249.out 0).trans rfl
   have hcz12_1 : w6.cell? ⟨gb249, 1, none⟩ = some (.int .i64 a0_1) := (blk_cell BK249.out 1).trans rfl
   have hcz12_2 : w6.cell? ⟨gb249, 2, none⟩ = some (.int .i64 a0_2) := (blk_cell BK249.out 2).trans rfl
   have hcz12_3 : w6.cell? ⟨gb249, 3, none⟩ = some (.int .i64 a0_3) := (blk_cell BK249.out 3).trans rfl
   have hcz12_4 : w6.cell? ⟨gb249, 4, none⟩ = some (.int .i64 a0_4) := (blk_cell BK249.out 4).trans rfl
   have hcz12_5 : w6.cell? ⟨gb249, 5, none⟩ = some (.bool a0_5) := (blk_cell BK249.out 5).trans rfl
   have hfz12_0 := blk_frozen BK249.out 0
   have hfz12_1 := blk_frozen BK249.out 1
   have hfz12_2 := blk_frozen BK249.out 2
   have hfz12_3 := blk_frozen BK249.out 3
   have hfz12_4 := blk_frozen BK249.out 4
   have hfz12_5 := blk_frozen BK249.out 5
   go_wp2_with (first | ((with_reducible refine gate_callee (f := 53) rfl ?_); refine goesL_ (some 16) rfl rfl Try.func53 (by kernel_rfl) rfl #[.agg #[.int .i64 a0_0, .int .i64 a0_1, .int .i64 a0_2, .int .i64 a0_3, .int .i64 a0_4, .bool a0_5], .int .i64 a1, .int .i64 a2] rfl (by (try simp only [List.map_toArray, List.map_cons, List.map_nil]); first | done | rfl) ?_; (with_reducible refine (impl_Second_isAt.calls a0_0 a0_1 a0_2 a0_3 a0_4 a0_5 a1 a2 false _ A7.out).mono ?_); rintro e w13 ⟨rfl, hb⟩; refine ⟨_, rfl, ?_⟩; have n0_ := Aside0.mk (blk_below (g := gb249) (o := .cells #[.int .i64 a0_0, .int .i64 a0_1, .int .i64 a0_2, .int .i64 a0_3, .int .i64 a0_4, .bool a0_5] 40 (0, 0)) (by (with_reducible repeat (first | refine blk_drewN ?_ _ | refine blk_drew ?_ | refine blk_alloc ?_ _)); exact BK249.out) hb); have n1_ := Aside0.mk (below_step (by repeat (first | (with_reducible first | exact HB.out | apply below_alloc | apply pw_below_drewN | apply below_drew1 | refine below_set ?_ GE249.out) | exact HB.out)) hb); clear BK249; clear HB; have BK249 := n0_; have HB := n1_; clear n0_ n1_; (try clear hb); (try clear hb2); (try clear hk); (try clear hi)))
   go_meet
   case rel => exact ⟨_, (true), (by first | rfl | (simp [*]; done)), H', ⟨by first | omega | exact Nat.le_refl _⟩, ⟨by (with_reducible repeat (first | refine blk_drewN ?_ _ | refine blk_drew ?_ | refine blk_alloc ?_ _)); exact BK249.out⟩, ⟨by repeat (first | (with_reducible first | exact HB.out | apply below_alloc | apply pw_below_drewN | apply below_drew1 | refine below_set ?_ GE249.out) | exact HB.out)⟩⟩
 case rest =>
  clear HC5
  try clear p2
  try clear c3
  try clear c5
  try clear c8
  try clear hcz10_0
  try clear hcz10_1
  try clear hcz10_2
  try clear hcz10_3
  try clear hcz10_4
  try clear hcz10_5
  try clear hcz12_0
  try clear hcz12_1
  try clear hcz12_2
  try clear hcz12_3
  try clear hcz12_4
  try clear hcz12_5
  try clear hfz10_0
  try clear hfz10_1
  try clear hfz10_2
  try clear hfz10_3
  try clear hfz10_4
  try clear hfz10_5
  try clear hfz12_0
  try clear hfz12_1
  try clear hfz12_2
  try clear hfz12_3
  try clear hfz12_4
  try clear hfz12_5
  obtain ⟨kq, x22_4, rfl, HA, HJ4, BK249, HB⟩ := hcut
  cases kq with
  | zero => exact absurd HA.out (by simp [impl_CycleOfPair.j0])
  | succ kj4 =>
   have H := HA.out
   clear HA
   simp only [impl_CycleOfPair.j0] at H
   by_cases c14 : x22_4 = true
   ·subst c14
    have H1 : (some (([] : List Int), false)) = some (r1, r2) := by rw [if_pos rfl] at H; exact H
    clear H
    have H := H1
    clear H1
    simp only [Option.some.injEq, Prod.mk.injEq] at H
    obtain ⟨rfl, rfl⟩ := H
    go_wp2
    go_ret2
    exact ⟨_, by first | rfl | (simp [*] <;> rfl), by first | exact Kd.R_nil _ _ _ _ _ | exact Kd.N_nil _ _ _ _ _ | exact Kd.V_nil _ _ _ _ _ | exact Kd.Q_nil _ _ _ _ _ | exact Kd.S_nil _ _ _ _ _, by repeat (first | (with_reducible first | exact HB.out | apply below_alloc | apply pw_below_drewN | apply below_drew1 | refine below_set ?_ GE249.out) | exact HB.out)⟩
   ·replace c14 := Bool.eq_false_iff.mpr c14
    subst c14
    have H1 : ((impl_Second_history.f kj4 a0_0 a0_1 a0_2 a0_3 a0_4 a0_5 a1 a2 a3).bind fun bt252 => (if bt252.2.2 = true then (if 0 ≤ bt252.2.1 then (if bt252.2.1 ≤ (bt252.1.length : Int) then ((impl_turnedFirst.f kj4 (bt252.1.drop (bt252.2.1 : Int).toNat)).bind fun t261 => (some (t261, true))) else (none)) else (none)) else (some (([] : List Int), false)))) = some (r1, r2) := by rw [if_neg (show ¬ (false = true) by decide)] at H; exact H
    clear H
    have H := H1
    clear H1
    replace H := Option.bind_eq_some_iff.mp H
    obtain ⟨⟨t252, t255, t256⟩, A150, H⟩ := H
    replace H : (if t256 = true then (if 0 ≤ t255 then (if t255 ≤ (t252.length : Int) then ((impl_turnedFirst.f kj4 (t252.drop (t255 : Int).toNat)).bind fun t261 => (some (t261, true))) else (none)) else (none)) else (some (([] : List Int), false))) = some (r1, r2) := H
    have A15 := Aside0.mk A150
    clear A150
    by_cases c16 : t256 = true
    ·subst c16
     have H1 : (if 0 ≤ t255 then (if t255 ≤ (t252.length : Int) then ((impl_turnedFirst.f kj4 (t252.drop (t255 : Int).toNat)).bind fun t261 => (some (t261, true))) else (none)) else (none)) = some (r1, r2) := by rw [if_pos rfl] at H; exact H
     clear H
     have H := H1
     clear H1
     by_cases c17 : 0 ≤ t255
     ·rw [if_pos c17] at H
      have c17b0 := eq_true c17
      have c17b1 : decide (0 ≤ t255) = true := decide_eq_true c17
      clear c17
      by_cases c18 : t255 ≤ (t252.length : Int)
      ·rw [if_pos c18] at H
       have c18b0 := eq_true c18
       have c18b1 : decide (t255 ≤ (t252.length : Int)) = true := decide_eq_true c18
       clear c18
       obtain ⟨y257, hy257⟩ : ∃ y_ : List (Int × Int), y_ = (t252.drop (t255 : Int).toNat) := ⟨_, rfl⟩
       replace H : ((impl_turnedFirst.f kj4 y257).bind fun t261 => (some (t261, true))) = some (r1, r2) := by first | (rw [hy257]; with_reducible exact H) | (have H2_ := (Option.bind_some _ _).symm.trans H; rw [hy257]; with_reducible exact H2_) | (have H2_ := (Option.bind_some _ _).symm.trans H; with_reducible exact H2_) | with_reducible exact H | (rw [hy257]; exact H) | exact H
       have Ny257 := Aside0.mk hy257
       clear hy257
       replace H := Option.bind_eq_some_iff.mp H
       obtain ⟨t261, A190, H⟩ := H
       replace H : (some (t261, true)) = some (r1, r2) := H
       have A19 := Aside0.mk A190
       clear A190
       simp only [Option.some.injEq, Prod.mk.injEq] at H
       obtain ⟨rfl, rfl⟩ := H
       have hcz20_0 : wc.cell? ⟨gb249, 0, none⟩ = some (.int .i64 a0_0) := (blk_cell BK249.out 0).trans rfl
       have hcz20_1 : wc.cell? ⟨gb249, 1, none⟩ = some (.int .i64 a0_1) := (blk_cell BK249.out 1).trans rfl
       have hcz20_2 : wc.cell? ⟨gb249, 2, none⟩ = some (.int .i64 a0_2) := (blk_cell BK249.out 2).trans rfl
       have hcz20_3 : wc.cell? ⟨gb249, 3, none⟩ = some (.int .i64 a0_3) := (blk_cell BK249.out 3).trans rfl
       have hcz20_4 : wc.cell? ⟨gb249, 4, none⟩ = some (.int .i64 a0_4) := (blk_cell BK249.out 4).trans rfl
       have hcz20_5 : wc.cell? ⟨gb249, 5, none⟩ = some (.bool a0_5) := (blk_cell BK249.out 5).trans rfl
       have hfz20_0 := blk_frozen BK249.out 0
       have hfz20_1 := blk_frozen BK249.out 1
       have hfz20_2 := blk_frozen BK249.out 2
       have hfz20_3 := blk_frozen BK249.out 3
       have hfz20_4 := blk_frozen BK249.out 4
       have hfz20_5 := blk_frozen BK249.out 5
       go_wp2_with (first | ((with_reducible refine gate_callee (f := 80) rfl ?_); refine goesL_ (some 29) rfl rfl Try.func80 (by kernel_rfl) rfl #[.agg #[.int .i64 a0_0, .int .i64 a0_1, .int .i64 a0_2, .int .i64 a0_3, .int .i64 a0_4, .bool a0_5], .agg #[.int .i64 a1, .int .i64 a2], .int .i64 a3] rfl (by (try simp only [List.map_toArray, List.map_cons, List.map_nil]); first | done | rfl) ?_; (with_reducible refine (impl_Second_history.calls kj4 a0_0 a0_1 a0_2 a0_3 a0_4 a0_5 a1 a2 a3 t252 t255 true _ A15.out).mono ?_); rintro e w21 ⟨v253, rfl, ho0, hb⟩; refine ⟨_, rfl, ?_⟩; have n0_ := Aside0.mk (Kd.R_lower ho0 (below_size (by repeat (first | (with_reducible first | exact HB.out | apply below_alloc | apply pw_below_drewN | apply below_drew1 | refine below_set ?_ GE249.out) | exact HB.out)))); have n1_ := Aside0.mk (blk_below (g := gb249) (o := .cells #[.int .i64 a0_0, .int .i64 a0_1, .int .i64 a0_2, .int .i64 a0_3, .int .i64 a0_4, .bool a0_5] 40 (0, 0)) (by (with_reducible repeat (first | refine blk_drewN ?_ _ | refine blk_drew ?_ | refine blk_alloc ?_ _)); exact BK249.out) hb); have n2_ := Aside0.mk (below_step (by repeat (first | (with_reducible first | exact HB.out | apply below_alloc | apply pw_below_drewN | apply below_drew1 | refine below_set ?_ GE249.out) | exact HB.out)) hb); clear BK249; clear HB; have HO254 := n0_; have BK249 := n1_; have HB := n2_; clear n0_ n1_ n2_; (try clear hb); (try clear hb2); (try clear hk); (try clear hi); (try clear ho0); obtain ⟨Ao23, co23, eo23⟩ := Kd.R_slice HO254.out; subst eo23; have q22 : (t255 : Int) ≤ ((t252.length : Int) : Int) := of_decide_eq_true (by first | (with_reducible assumption) | assumption); obtain ⟨i022, hi022, _, hsz22, _⟩ := info_parts info75; have hroom22 : t252.length ≤ co23 := (Kd.R_reads' HO254.out).2.1; have hC22 : Kd.C (Kd.pair (Kd.int .i64) (Kd.int .i64)) _ Ao23 t252.length t252 := (Kd.R_reads' HO254.out).2.2; have q022 : (0 : Int) ≤ (t255 : Int) := of_decide_eq_true (by first | (with_reducible assumption) | assumption); have hcut22 := cut_from (P := Try.prog) 97 75 .i64 Try.underlying97 hi022 2 hsz22 Ao23 t252.length co23 t255 q022 q22; have hr22 := Kd.C_drop (m := (t255 : Int).toNat) (c := co23) hC22 (by omega) hroom22; obtain ⟨A22, hA22⟩ : ∃ A1, A1 = (if co23 = (t255 : Int).toNat then Ao23 else (Ao23 : Option Addr).map (·.add ((t255 : Int).toNat * 2))) := ⟨_, rfl⟩; obtain ⟨c22, hc22⟩ : ∃ c1, c1 = co23 - (t255 : Int).toNat := ⟨_, rfl⟩; have hy22 : y257.length = t252.length - (t255 : Int).toNat := (by rw [Ny257.out, List.length_drop] <;> omega); rw [show (t252).drop (t255 : Int).toNat = y257 from Ny257.out.symm] at hr22; replace hr22 : Kd.C (Kd.pair (Kd.int .i64) (Kd.int .i64)) _ A22 y257.length y257 := (by rw [hA22]; exact hr22); rw [← hy22, ← hA22, ← hc22] at hcut22; have HR260 := Aside0.mk hr22; have HC260 := Aside0.mk (show y257.length ≤ c22 from by rw [hy22, hc22]; exact Nat.sub_le_sub_right hroom22 _); clear hr22 hC22 hroom22 hi022 hsz22 hc22; have KY22 := Aside0.mk hy22; have KA22 := Aside0.mk hA22; clear hy22 hA22; have KL22 := Aside0.mk (show (t255 : Int).toNat ≤ t252.length from by omega); replace q22 := eq_true q22) | ((with_reducible refine gate_callee (f := 81) rfl ?_); refine goesL_ (some 38) rfl rfl Try.func81 (by kernel_rfl) rfl #[.slice A22 y257.length c22] rfl (by (try simp only [List.map_toArray, List.map_cons, List.map_nil]); first | done | rfl) ?_; (with_reducible refine (impl_turnedFirst.calls kj4 _ _ y257 t261 _ ?side1 ?side2 A19.out).mono ?_); (case side1 => repeat (first | exact (by repeat (first | (with_reducible exact HR260.out) | (with_reducible refine Kd.C_alloc ?_ _) | (with_reducible refine Kd.C_drewN ?_ _) | (with_reducible refine Kd.C_drew ?_) | exact HR260.out)) | (with_reducible refine Kd.C_alloc ?_ _) | (with_reducible refine Kd.C_drewN ?_ _) | (with_reducible refine Kd.C_drew ?_))); (case side2 => exact HC260.out); rintro e w24 ⟨v262, rfl, ho0, hb⟩; refine ⟨_, rfl, ?_⟩; have n0_ := Aside0.mk (Kd.R_below (by (with_reducible repeat (first | apply Kd.R_alloc | apply Kd.R_drewN | apply Kd.R_drew)); exact HO254.out) hb); have n1_ := Aside0.mk (Kd.R_lower ho0 (below_size (by repeat (first | (with_reducible first | exact HB.out | apply below_alloc | apply pw_below_drewN | apply below_drew1 | refine below_set ?_ GE249.out) | exact HB.out)))); have n2_ := Aside0.mk (blk_below (g := gb249) (o := .cells #[.int .i64 a0_0, .int .i64 a0_1, .int .i64 a0_2, .int .i64 a0_3, .int .i64 a0_4, .bool a0_5] 40 (0, 0)) (by (with_reducible repeat (first | refine blk_drewN ?_ _ | refine blk_drew ?_ | refine blk_alloc ?_ _)); exact BK249.out) hb); have n3_ := Aside0.mk (Kd.C_below (by repeat (first | (with_reducible exact HR260.out) | (with_reducible refine Kd.C_alloc ?_ _) | (with_reducible refine Kd.C_drewN ?_ _) | (with_reducible refine Kd.C_drew ?_) | exact HR260.out)) hb); have n4_ := Aside0.mk (below_step (by repeat (first | (with_reducible first | exact HB.out | apply below_alloc | apply pw_below_drewN | apply below_drew1 | refine below_set ?_ GE249.out) | exact HB.out)) hb); clear HO254; clear BK249; clear HR260; clear HB; have HO254 := n0_; have HO263 := n1_; have BK249 := n2_; have HR260 := n3_; have HB := n4_; clear n0_ n1_ n2_ n3_ n4_; (try clear hb); (try clear hb2); (try clear hk); (try clear hi); (try clear ho0)))
       go_ret2
       exact ⟨_, by first | rfl | (simp [*] <;> rfl), by (with_reducible repeat (first | apply Kd.R_alloc | apply Kd.R_drewN | apply Kd.R_drew)); exact HO263.out, by repeat (first | (with_reducible first | exact HB.out | apply below_alloc | apply pw_below_drewN | apply below_drew1 | refine below_set ?_ GE249.out) | exact HB.out)⟩
      ·rw [if_neg c18] at H
       exact absurd H (by simp)
     ·rw [if_neg c17] at H
      exact absurd H (by simp)
    ·replace c16 := Bool.eq_false_iff.mpr c16
     subst c16
     have H1 : (some (([] : List Int), false)) = some (r1, r2) := by rw [if_neg (show ¬ (false = true) by decide)] at H; exact H
     clear H
     have H := H1
     clear H1
     simp only [Option.some.injEq, Prod.mk.injEq] at H
     obtain ⟨rfl, rfl⟩ := H
     have hcz25_0 : wc.cell? ⟨gb249, 0, none⟩ = some (.int .i64 a0_0) := (blk_cell BK249.out 0).trans rfl
     have hcz25_1 : wc.cell? ⟨gb249, 1, none⟩ = some (.int .i64 a0_1) := (blk_cell BK249.out 1).trans rfl
     have hcz25_2 : wc.cell? ⟨gb249, 2, none⟩ = some (.int .i64 a0_2) := (blk_cell BK249.out 2).trans rfl
     have hcz25_3 : wc.cell? ⟨gb249, 3, none⟩ = some (.int .i64 a0_3) := (blk_cell BK249.out 3).trans rfl
     have hcz25_4 : wc.cell? ⟨gb249, 4, none⟩ = some (.int .i64 a0_4) := (blk_cell BK249.out 4).trans rfl
     have hcz25_5 : wc.cell? ⟨gb249, 5, none⟩ = some (.bool a0_5) := (blk_cell BK249.out 5).trans rfl
     have hfz25_0 := blk_frozen BK249.out 0
     have hfz25_1 := blk_frozen BK249.out 1
     have hfz25_2 := blk_frozen BK249.out 2
     have hfz25_3 := blk_frozen BK249.out 3
     have hfz25_4 := blk_frozen BK249.out 4
     have hfz25_5 := blk_frozen BK249.out 5
     go_wp2_with (first | ((with_reducible refine gate_callee (f := 80) rfl ?_); refine goesL_ (some 29) rfl rfl Try.func80 (by kernel_rfl) rfl #[.agg #[.int .i64 a0_0, .int .i64 a0_1, .int .i64 a0_2, .int .i64 a0_3, .int .i64 a0_4, .bool a0_5], .agg #[.int .i64 a1, .int .i64 a2], .int .i64 a3] rfl (by (try simp only [List.map_toArray, List.map_cons, List.map_nil]); first | done | rfl) ?_; (with_reducible refine (impl_Second_history.calls kj4 a0_0 a0_1 a0_2 a0_3 a0_4 a0_5 a1 a2 a3 t252 t255 false _ A15.out).mono ?_); rintro e w26 ⟨v253, rfl, ho0, hb⟩; refine ⟨_, rfl, ?_⟩; have n0_ := Aside0.mk (Kd.R_lower ho0 (below_size (by repeat (first | (with_reducible first | exact HB.out | apply below_alloc | apply pw_below_drewN | apply below_drew1 | refine below_set ?_ GE249.out) | exact HB.out)))); have n1_ := Aside0.mk (blk_below (g := gb249) (o := .cells #[.int .i64 a0_0, .int .i64 a0_1, .int .i64 a0_2, .int .i64 a0_3, .int .i64 a0_4, .bool a0_5] 40 (0, 0)) (by (with_reducible repeat (first | refine blk_drewN ?_ _ | refine blk_drew ?_ | refine blk_alloc ?_ _)); exact BK249.out) hb); have n2_ := Aside0.mk (below_step (by repeat (first | (with_reducible first | exact HB.out | apply below_alloc | apply pw_below_drewN | apply below_drew1 | refine below_set ?_ GE249.out) | exact HB.out)) hb); clear BK249; clear HB; have HO254 := n0_; have BK249 := n1_; have HB := n2_; clear n0_ n1_ n2_; (try clear hb); (try clear hb2); (try clear hk); (try clear hi); (try clear ho0)))
     go_ret2
     exact ⟨_, by first | rfl | (simp [*] <;> rfl), by first | exact Kd.R_nil _ _ _ _ _ | exact Kd.N_nil _ _ _ _ _ | exact Kd.V_nil _ _ _ _ _ | exact Kd.Q_nil _ _ _ _ _ | exact Kd.S_nil _ _ _ _ _, by repeat (first | (with_reducible first | exact HB.out | apply below_alloc | apply pw_below_drewN | apply below_drew1 | refine below_set ?_ GE249.out) | exact HB.out)⟩

end Go.Proofs.Ytjknlfgphlopnaa.PFnExactCycleOfPair
