-- Written by this session's pp.py over the kit's print.
import Derived.Test.YtmkcmclochhkeaaPFnExactPairCyclesx0
import Derived.Test.YtmkcmclochhkeaaPFnExactPairCyclesx7
import Derived.Test.YtmkcmclochhkeaaPFnExactPairCyclesx8
import Derived.Test.YtmkcmclochhkeaaPFnExactPairCyclesx9
namespace Go.Proofs.Ytmkcmclochhkeaa.PFnExactPairCycles
open Go.RowKit Go.Proofs.YtmkcmclochhkeaaW.PrintWords Go.Proofs.YtmkcmclochhkeaaW.PrintLast Go.Proofs.YtmkcmclochhkeaaW.PrintMore
attribute [local go_sem] max2_int min2_int max_two min_two max_three min_three max_four min_four   -- for this text's walks alone
set_option linter.unusedVariables false
set_option linter.unusedSimpArgs false

/-! ### impl_PairCycles: function 17 -/
def impl_PairCycles.lay_ren : Go.Shelf.Ren := ⟨fun | 6 => 35 | 15 => 61 | 14 => 60 | 28 => 92 | 29 => 93 | 20 => 84 | 21 => 85 | 22 => 86 | 23 => 87 | 24 => 88 | 25 => 89 | 26 => 90 | 27 => 91 | 46 => 103 | 47 => 104 | 48 => 105 | 49 => 106 | 50 => 107 | 57 => 119 | n => n, fun | 22 => 39 | 24 => 23 | 25 => 67 | 3 => 3 | 39 => 95 | 0 => 0 | 53 => 116 | 55 => 118 | 4 => 4 | 46 => 110 | 45 => 109 | 50 => 90 | 5 => 5 | 9 => 9 | 66 => 125 | 70 => 129 | 76 => 136 | 77 => 122 | n => n, fun | n => n⟩
theorem impl_PairCycles.lay : Go.Proofs.SlLaysF.n6 Try.prog impl_PairCycles.lay_ren := {
 mixed := by kernel_rfl
 f6 := ⟨Try.f35.name, by decide, Try.func35.trans (congrArg some (by kernel_rfl))⟩
 f14 := ⟨Try.f60.name, by decide, Try.func60.trans (congrArg some (by kernel_rfl))⟩
 f15 := Try.func61.trans (congrArg some (by kernel_rfl))
 f20 := ⟨Try.f84.name, by decide, Try.func84.trans (congrArg some (by kernel_rfl))⟩
 f21 := ⟨Try.f85.name, by decide, Try.func85.trans (congrArg some (by kernel_rfl))⟩
 f22 := ⟨Try.f86.name, by decide, Try.func86.trans (congrArg some (by kernel_rfl))⟩
 f23 := ⟨Try.f87.name, by decide, Try.func87.trans (congrArg some (by kernel_rfl))⟩
 f24 := ⟨Try.f88.name, by decide, Try.func88.trans (congrArg some (by kernel_rfl))⟩
 f25 := ⟨Try.f89.name, by decide, Try.func89.trans (congrArg some (by kernel_rfl))⟩
 f26 := ⟨Try.f90.name, by decide, Try.func90.trans (congrArg some (by kernel_rfl))⟩
 f27 := ⟨Try.f91.name, by decide, Try.func91.trans (congrArg some (by kernel_rfl))⟩
 f28 := Try.func92.trans (congrArg some (by kernel_rfl))
 f29 := Try.func93.trans (congrArg some (by kernel_rfl))
 f46 := ⟨Try.f103.name, by decide, Try.func103.trans (congrArg some (by kernel_rfl))⟩
 f47 := Try.func104.trans (congrArg some (by kernel_rfl))
 f48 := Try.func105.trans (congrArg some (by kernel_rfl))
 f49 := ⟨Try.f106.name, by decide, Try.func106.trans (congrArg some (by kernel_rfl))⟩
 f50 := ⟨Try.f107.name, by decide, Try.func107.trans (congrArg some (by kernel_rfl))⟩
 f57 := ⟨Try.f119.name, by decide, Try.func119.trans (congrArg some (by kernel_rfl))⟩
 t0 := Try.underlying0
 a0 := Try.isAgg0
 z0 := Try.sizeOf0
 v0 := Try.zeroValue0
 t3 := Try.underlying3
 a3 := Try.isAgg3
 z3 := Try.sizeOf3
 v3 := Try.zeroValue3
 t4 := Try.underlying4
 a4 := Try.isAgg4
 z4 := Try.sizeOf4
 v4 := Try.zeroValue4
 t5 := Try.underlying5
 a5 := Try.isAgg5
 z5 := Try.sizeOf5
 v5 := Try.zeroValue5
 t9 := Try.underlying9
 a9 := Try.isAgg9
 z9 := Try.sizeOf9
 v9 := Try.zeroValue9
 t22 := Try.underlying39
 a22 := Try.isAgg39
 z22 := Try.sizeOf39
 v22 := Try.zeroValue39
 a24 := Try.isAgg23
 z24 := Try.sizeOf23
 t25 := Try.underlying67
 a25 := Try.isAgg67
 z25 := Try.sizeOf67
 v25 := Try.zeroValue67
 t39 := Try.underlying95
 a39 := Try.isAgg95
 z39 := Try.sizeOf95
 v39 := Try.zeroValue95
 t45 := Try.underlying109
 a45 := Try.isAgg109
 z45 := Try.sizeOf109
 v45 := Try.zeroValue109
 t46 := Try.underlying110
 a46 := Try.isAgg110
 z46 := Try.sizeOf110
 v46 := Try.zeroValue110
 t50 := Try.underlying90
 a50 := Try.isAgg90
 z50 := Try.sizeOf90
 v50 := Try.zeroValue90
 t53 := Try.underlying116
 a53 := Try.isAgg116
 z53 := Try.sizeOf116
 v53 := Try.zeroValue116
 t55 := Try.underlying118
 a55 := Try.isAgg118
 z55 := Try.sizeOf118
 v55 := Try.zeroValue118
 t66 := Try.underlying125
 a66 := Try.isAgg125
 z66 := Try.sizeOf125
 v66 := Try.zeroValue125
 t70 := Try.underlying129
 a70 := Try.isAgg129
 z70 := Try.sizeOf129
 v70 := Try.zeroValue129
 t76 := Try.underlying136
 a76 := Try.isAgg136
 z76 := Try.sizeOf136
 v76 := Try.zeroValue136
 t77 := Try.underlying122
 a77 := Try.isAgg122
 z77 := Try.sizeOf122
 v77 := Try.zeroValue122 }
def impl_PairCycles.cmp : List Int → List Int → Int
 | [], [] => 0
 | [], _ :: _ => -1
 | _ :: _, [] => 1
 | x :: a, y :: b => if x < y then -1 else if y < x then 1 else impl_PairCycles.cmp a b
theorem impl_PairCycles.c_self : ∀ a, impl_PairCycles.cmp a a = 0
 | [] => rfl
 | x :: a => by rw [impl_PairCycles.cmp, if_neg (by omega), if_neg (by omega), impl_PairCycles.c_self a]
theorem impl_PairCycles.c_swap : ∀ a b, impl_PairCycles.cmp a b = -impl_PairCycles.cmp b a
 | [], [] => rfl
 | [], _ :: _ => rfl
 | _ :: _, [] => rfl
 | x :: a, y :: b => by
  rw [impl_PairCycles.cmp, impl_PairCycles.cmp]
  rcases Int.lt_trichotomy x y with h | h | h
  ·rw [if_pos h, if_neg (by omega), if_pos h]
  ·rw [if_neg (by omega), if_neg (by omega), if_neg (by omega), if_neg (by omega)]; exact impl_PairCycles.c_swap a b
  ·rw [if_neg (by omega), if_pos h, if_pos h]; rfl
theorem impl_PairCycles.c_eq : ∀ a b, impl_PairCycles.cmp a b = 0 → a = b
 | [], [], _ => rfl
 | [], _ :: _, h => by simp [impl_PairCycles.cmp] at h
 | _ :: _, [], h => by simp [impl_PairCycles.cmp] at h
 | x :: a, y :: b, h => by
  rw [impl_PairCycles.cmp] at h
  by_cases h1 : x < y
  ·rw [if_pos h1] at h; omega
  ·rw [if_neg h1] at h
   by_cases h2 : y < x
   ·rw [if_pos h2] at h; omega
   ·rw [if_neg h2] at h
    rw [impl_PairCycles.c_eq a b h, show x = y by omega]
theorem impl_PairCycles.c_range : ∀ a b, impl_PairCycles.cmp a b = -1 ∨ impl_PairCycles.cmp a b = 0 ∨ impl_PairCycles.cmp a b = 1
 | [], [] => by simp [impl_PairCycles.cmp]
 | [], _ :: _ => by simp [impl_PairCycles.cmp]
 | _ :: _, [] => by simp [impl_PairCycles.cmp]
 | x :: a, y :: b => by
  rw [impl_PairCycles.cmp]
  split
  ·simp
  ·split
   ·simp
   ·exact impl_PairCycles.c_range a b
theorem impl_PairCycles.c_trans : ∀ a b c, impl_PairCycles.cmp a b ≤ 0 → impl_PairCycles.cmp b c ≤ 0 → impl_PairCycles.cmp a c ≤ 0
 | [], _, [], _, _ => by simp [impl_PairCycles.cmp]
 | [], _, _ :: _, _, _ => by simp [impl_PairCycles.cmp]
 | _ :: _, [], _, h, _ => by simp [impl_PairCycles.cmp] at h
 | _ :: _, _ :: _, [], _, h => by simp [impl_PairCycles.cmp] at h
 | x :: a, y :: b, z :: c, h1, h2 => by
  rw [impl_PairCycles.cmp] at h1 h2 ⊢
  by_cases a1 : x < y
  ·by_cases a2 : y < z
   ·rw [if_pos (by omega)]; decide
   ·rw [if_neg a2] at h2
    by_cases a3 : z < y
    ·rw [if_pos a3] at h2; omega
    ·rw [if_pos (by omega)]; decide
  ·rw [if_neg a1] at h1
   by_cases a2 : y < x
   ·rw [if_pos a2] at h1; omega
   ·rw [if_neg a2] at h1
    by_cases a3 : y < z
    ·rw [if_pos (by omega)]; decide
    ·rw [if_neg a3] at h2
     by_cases a4 : z < y
     ·rw [if_pos a4] at h2; omega
     ·rw [if_neg a4] at h2
      rw [if_neg (by omega), if_neg (by omega)]
      exact impl_PairCycles.c_trans a b c h1 h2
theorem impl_PairCycles.uniq : ∀ l l' : List (List Int), l.Perm l' → l.Pairwise (fun u v => impl_PairCycles.cmp u v ≤ 0) → l'.Pairwise (fun u v => impl_PairCycles.cmp u v ≤ 0) → l = l'
 | [], l', h, _, _ => by rw [List.nil_perm.1 h]
 | x :: l, [], h, _, _ => by cases List.perm_nil.1 h
 | x :: l, y :: l', h, h1, h2 => by
  rw [List.pairwise_cons] at h1 h2
  have e : x = y := by
   apply Classical.byContradiction
   intro hne
   have m1 : x ∈ y :: l' := h.mem_iff.1 (List.mem_cons_self ..)
   have m2 : y ∈ x :: l := h.mem_iff.2 (List.mem_cons_self ..)
   have m3 : x ∈ l' := (List.mem_cons.1 m1).resolve_left hne
   have m4 : y ∈ l := (List.mem_cons.1 m2).resolve_left (fun e => hne e.symm)
   have c1 := h1.1 y m4
   have c2 := h2.1 x m3
   have c3 := impl_PairCycles.c_swap x y
   exact hne (impl_PairCycles.c_eq x y (by omega))
  subst e
  rw [impl_PairCycles.uniq l l' (List.Perm.cons_inv h) h1.2 h2.2]
/-- The rows in order. -/
def impl_PairCycles.srt (R : List (List Int)) : List (List Int) := R.mergeSort fun u v => decide (impl_PairCycles.cmp u v ≤ 0)
theorem impl_PairCycles.srt_eq (R S : List (List Int)) (hp : S.Perm R) (hs : S.Pairwise fun u v => impl_PairCycles.cmp u v ≤ 0) : S = impl_PairCycles.srt R := by
 have h1 := List.mergeSort_perm R (fun u v : List Int => decide (impl_PairCycles.cmp u v ≤ 0))
 have h2 := List.pairwise_mergeSort (le := fun u v : List Int => decide (impl_PairCycles.cmp u v ≤ 0)) (fun a b c h1 h2 => by
  simp only [decide_eq_true_eq] at *
  exact impl_PairCycles.c_trans a b c h1 h2) (fun a b => by
  have := impl_PairCycles.c_swap a b
  rcases Int.le_total (impl_PairCycles.cmp a b) 0 with h | h
  ·rw [decide_eq_true h]; rfl
  ·rw [Bool.or_eq_true]
   exact .inr (decide_eq_true (by omega))) R
 exact impl_PairCycles.uniq _ _ (hp.trans h1.symm) hs (h2.imp fun h => of_decide_eq_true h)
theorem impl_PairCycles.ci (a b : Int) : cmp_Compare_int.f a b = some (if a < b then -1 else if b < a then 1 else 0) := by
 unfold cmp_Compare_int.f cmp_isNaN_int.f
 simp only [bne_self_eq_false, Option.bind_some, Bool.false_eq_true, if_false, gt_iff_lt]
 by_cases h1 : a < b
 ·rw [if_pos h1, if_pos h1]
 ·rw [if_neg h1, if_neg h1]
  by_cases h2 : b < a
  ·rw [if_pos h2, if_pos h2]
  ·rw [if_neg h2, if_neg h2]
theorem impl_PairCycles.rd_ (l : List Int) (i : Nat) (h : i < l.length) : rd l (i : Int) = l[i] := by
 unfold rd
 rw [List.getD_eq_getElem?_getD, Int.toNat_natCast, List.getElem?_eq_getElem h]
 rfl
theorem impl_PairCycles.cmp_l (a b : List Int) (ha : a.length ≤ 1000000) : ∀ (d i k : Nat), i + d = a.length → i ≤ b.length → slices_Compare_int_int.l0 (k + d + 1) a b a (a.length : Int) (i : Int) = some (impl_PairCycles.cmp (a.drop i) (b.drop i)) := by
 intro d
 induction d with
 | zero =>
  intro i k hi hb
  rw [List.drop_eq_nil_of_le (show a.length ≤ i by omega)]
  simp only [slices_Compare_int_int.l0]
  rw [if_neg (by omega)]
  by_cases h : i < b.length
  ·rw [List.drop_eq_getElem_cons h, impl_PairCycles.cmp, if_pos (by omega)]
  ·rw [List.drop_eq_nil_of_le (show b.length ≤ i by omega), impl_PairCycles.cmp, if_neg (by omega)]
 | succ d ih =>
  intro i k hi hb
  rw [List.drop_eq_getElem_cons (show i < a.length by omega)]
  simp only [slices_Compare_int_int.l0]
  rw [if_pos (by omega), if_pos (by omega), if_pos (by omega)]
  by_cases h : i < b.length
  ·have h2 := ih (i + 1) k (by omega) (by omega)
   have hw : wrap64 ((i : Int) + 1) = ((i + 1 : Nat) : Int) := by unfold wrap64; omega
   rw [List.drop_eq_getElem_cons h, impl_PairCycles.cmp, if_neg (by omega), if_pos (by omega), impl_PairCycles.rd_ a i (by omega), impl_PairCycles.rd_ b i h, impl_PairCycles.ci, hw, Option.bind_some]
   by_cases h3 : a[i] < b[i]
   ·rw [if_pos h3, if_pos h3]
    rfl
   ·rw [if_neg h3, if_neg h3]
    by_cases h4 : b[i] < a[i]
    ·rw [if_pos h4, if_pos h4]
     rfl
    ·rw [if_neg h4, if_neg h4, if_pos rfl]
     exact h2
  ·rw [List.drop_eq_nil_of_le (show b.length ≤ i by omega), impl_PairCycles.cmp, if_pos (by omega)]
theorem impl_PairCycles.cmp_f (a b : List Int) (ha : a.length ≤ 1000000) : slices_Compare_int_int.f (a.length + 1) a b = some (impl_PairCycles.cmp a b) := by
 have h := impl_PairCycles.cmp_l a b ha a.length 0 0 (by omega) (by omega)
 rw [List.drop_zero, List.drop_zero, Nat.zero_add] at h
 exact h
theorem impl_PairCycles.swo (rows : Nat → List Int) : Sort.SWO (Go.Proofs.ltOf fun i j : Nat => impl_PairCycles.cmp (rows i) (rows j)) where
 irrefl x := decide_eq_false (by have := impl_PairCycles.c_self (rows x); show ¬ impl_PairCycles.cmp (rows x) (rows x) < 0; omega)
 trans x y z h1 h2 := by
  unfold Go.Proofs.ltOf at *
  dsimp only at *
  rw [decide_eq_true_eq] at *
  have s1 := impl_PairCycles.c_swap (rows x) (rows z)
  have s2 := impl_PairCycles.c_swap (rows y) (rows z)
  have t1 := impl_PairCycles.c_trans (rows z) (rows x) (rows y)
  omega
 ntrans x y z h1 h2 := by
  unfold Go.Proofs.ltOf at *
  dsimp only at *
  rw [decide_eq_false_iff_not] at *
  have s1 := impl_PairCycles.c_swap (rows x) (rows y)
  have s2 := impl_PairCycles.c_swap (rows y) (rows z)
  have s3 := impl_PairCycles.c_swap (rows x) (rows z)
  have t1 := impl_PairCycles.c_trans (rows z) (rows y) (rows x)
  omega
theorem impl_PairCycles.heap_at {W : World} {g n : Nat} {os : Array Obj} {cur : Array Value} {e : TypeId} {fr : Nat × Nat} (enc : Nat → Value) (d : Array Nat) (hb : W.heap[g]? = some (.cells cur e fr)) :
  (Go.Proofs.sortWorld enc W g 0 n d os).heap[g]? = some (.cells (Sort.putCells enc 0 d cur) e fr) := by
 have hg : g < W.heap.size := (Array.getElem?_eq_some_iff.1 hb).1
 unfold Go.Proofs.sortWorld
 rw [Sort.heap_grow_old _ _ (by simpa [Sort.putRow, Sort.mapBlock, Sort.ahead] using hg)]
 simp [Sort.putRow, Sort.mapBlock, Sort.ahead, Array.getElem?_modify, hb, Sort.onCells]
theorem impl_PairCycles.grown {W : World} {g n : Nat} {os : Array Obj} (enc : Nat → Value) (d : Array Nat) : W.grownBy (Go.Proofs.sortWorld enc W g 0 n d os) (some g) := by
 unfold Go.Proofs.sortWorld
 refine ⟨rfl, rfl, rfl, by simp [Sort.grow, Sort.putRow, Sort.mapBlock, Sort.ahead], fun k hk hne => ?_⟩
 rw [Sort.heap_grow_old _ _ (by simpa [Sort.putRow, Sort.mapBlock, Sort.ahead] using hk)]
 have : g ≠ k := fun e => hne (by rw [e])
 simp [Sort.putRow, Sort.mapBlock, Sort.ahead, Array.getElem?_modify, this]
theorem impl_PairCycles.take_put (enc : Nat → Value) (cur : Array Value) (d : Array Nat) (h : d.size ≤ cur.size) : (Sort.putCells enc 0 d cur).toList.take d.size = d.toList.map enc := by
 apply List.ext_getElem?
 intro j
 by_cases hj : j < d.size
 ·rw [List.getElem?_take_of_lt hj, Array.getElem?_toList]
  simp [Sort.putCells, hj, show j < cur.size by omega]
 ·rw [List.getElem?_take_eq_none (by omega), List.getElem?_eq_none (by simp; omega)]
/-- The rows of a slice of rows of the call's own, each apart. -/
theorem impl_PairCycles.parts {W : World} {base g n cap : Nat} {ok : Nat → Prop} {xs : List (List Int)} (h : Kd.S (Kd.slice 3 (Kd.int .i64)) 23 W base ok (.slice (some ⟨g, 0, none⟩) n cap) xs) : ∃ (cur : Array Value) (enc : Nat → Value), n = xs.length ∧ base ≤ g ∧ W.heap[g]? = some (.cells cur 23 (0, 0)) ∧ xs.length ≤ cap ∧ cap ≤ maxLen ∧ cur.size = cap ∧ (∀ i, (enc i).oneCell' = true) ∧ cur.toList.take xs.length = (List.range xs.length).map enc ∧
  (∀ i, ∃ A c, enc i = .slice A (xs.getD i []).length c ∧ (xs.getD i []).length ≤ c ∧ ∀ W', (∀ k, k ≠ g → k < W.heap.size → W'.heap[k]? = W.heap[k]?) → (Kd.int .i64).C W' A (xs.getD i []).length (xs.getD i [])) ∧
  (∀ (σ : List Nat) (W' : World), σ.Perm (List.range xs.length) → (∀ k, k ≠ g → k < W.heap.size → W'.heap[k]? = W.heap[k]?) → (∃ cur', W'.heap[g]? = some (.cells cur' 23 (0, 0)) ∧ cur'.size = cap ∧ cur'.toList.take xs.length = σ.map enc) → Kd.S (Kd.slice 3 (Kd.int .i64)) 23 W' base ok (.slice (some ⟨g, 0, none⟩) n cap) (σ.map fun i => xs.getD i [])) := by
 obtain ⟨f, h0, inner, ho, hr⟩ := h
 rw [List.length_zipIdx] at ho
 obtain ⟨hl, hn | ⟨g', cap', cur, hv, hg, hh, h1, h2, h3, h4⟩⟩ := ho
 ·cases hn.1
 injection hv with hv1 hv2 hv3
 injection hv1 with hv1
 injection hv1 with hv1
 subst hv1 hv2 hv3
 have hsz : (Kd.tag f (Kd.slice 3 (Kd.int .i64))).sz = 1 := rfl
 rw [hsz, Nat.mul_one] at hl h3 h4
 have hat : ∀ i (hi : i < xs.length), ∃ v, inner[i]? = some v ∧ Kd.R (Kd.int .i64) 3 W base (fun k => (ok k ∧ some k ≠ (Value.slice (some ⟨g, 0, none⟩) xs.length cap).ownBlock) ∧ f k = i) v (xs.getD i []) := by
  intro i hi
  have h5 := hr.2 i (xs[i], i) (by rw [List.getElem?_zipIdx, List.getElem?_eq_getElem hi, Nat.zero_add]; rfl)
  obtain ⟨v, e, hR⟩ := h5
  rw [hsz, Nat.mul_one, List.drop_eq_getElem_cons (show i < inner.length by omega), List.take_succ_cons, List.take_zero] at e
  injection e with e
  refine ⟨v, by rw [List.getElem?_eq_getElem (show i < inner.length by omega), e], ?_⟩
  rw [List.getD_eq_getElem?_getD, List.getElem?_eq_getElem hi]
  exact hR
 have hne : ∀ k, some k ≠ (Value.slice (some ⟨g, 0, none⟩) xs.length cap).ownBlock → k ≠ g := fun k hk e => hk (by rw [e]; rfl)
 have hget : ∀ i, inner.length ≤ i → inner.getD i (.slice none 0 0) = .slice none 0 0 := fun i hi => by rw [List.getD_eq_getElem?_getD, List.getElem?_eq_none hi]; rfl
 refine ⟨cur, fun i => inner.getD i (.slice none 0 0), rfl, hg, hh, h1, h2, h3, ?_, ?_, ?_, ?_⟩
 ·intro i
  by_cases hi : i < xs.length
  ·obtain ⟨v, e, hR⟩ := hat i hi
   obtain ⟨A, c, rfl⟩ := Kd.R_slice hR
   show (inner.getD i _).oneCell' = true
   rw [List.getD_eq_getElem?_getD, e]
   rfl
  ·show (inner.getD i _).oneCell' = true
   rw [hget i (by omega)]
   rfl
 ·rw [h4]
  apply List.ext_getElem
  ·rw [hl, List.length_map, List.length_range]
  ·intro i i1 i2
   rw [List.getElem_map, List.getElem_range, List.getD_eq_getElem?_getD, List.getElem?_eq_getElem i1]
   rfl
 ·intro i
  by_cases hi : i < xs.length
  ·obtain ⟨v, e, hR⟩ := hat i hi
   obtain ⟨A, c, e2, hc, _⟩ := Kd.R_reads hR
   subst e2
   refine ⟨A, c, ?_, hc, fun W' hW => ?_⟩
   ·show inner.getD i _ = _
    rw [List.getD_eq_getElem?_getD, e]
    rfl
   ·exact (Kd.R_reads' (Kd.R_step hR (w1 := W') (fun k hk hlt => hW k (hne k hk.1.2) hlt))).2.2
  ·have e1 : xs.getD i [] = [] := by rw [List.getD_eq_getElem?_getD, List.getElem?_eq_none (by omega)]; rfl
   rw [e1]
   refine ⟨none, 0, hget i (by omega), Nat.le_refl _, fun W' _ => ?_⟩
   exact (Kd.R_reads' (Kd.R_nil (Kd.int .i64) 3 W' 0 (fun _ => True))).2.2
 ·intro σ W' hσ hW ⟨cur', hc1, hc2, hc3⟩
  have hsl : σ.length = xs.length := by rw [hσ.length_eq, List.length_range]
  have hlt : ∀ i ∈ σ, i < xs.length := fun i hi => List.mem_range.1 (hσ.mem_iff.1 hi)
  have hnd : σ.Nodup := hσ.nodup_iff.2 List.nodup_range
  refine ⟨fun k => σ.idxOf (f k), h0, σ.map fun i => inner.getD i (.slice none 0 0), ⟨by rw [List.length_map, List.length_zipIdx, List.length_map]; show σ.length = σ.length * 1; omega, .inr ⟨g, cap, cur', by rw [List.length_zipIdx, List.length_map, hsl], hg, hc1, by rw [List.length_zipIdx, List.length_map, hsl]; exact h1, h2, by rw [hc2]; exact (Nat.mul_one cap).symm, ?_⟩⟩, ?_, ?_⟩
  ·rw [List.length_zipIdx, List.length_map, hsl]
   show cur'.toList.take (xs.length * 1) = _
   rw [Nat.mul_one, hc3]
  ·rw [List.length_map, List.length_zipIdx, List.length_map]
   exact (Nat.mul_one _).symm
  ·intro j p hj
   have hjl : j < σ.length := by
    have := (List.getElem?_eq_some_iff.1 hj).1
    rw [List.length_zipIdx, List.length_map] at this
    exact this
   have hp : p = (xs.getD σ[j] [], j) := by
    rw [List.getElem?_zipIdx, List.getElem?_map, List.getElem?_eq_getElem hjl, Nat.zero_add] at hj
    exact (Option.some.inj hj).symm
   subst hp
   obtain ⟨v, e, hR⟩ := hat σ[j] (hlt _ (List.getElem_mem hjl))
   refine ⟨v, ?_, ?_⟩
   ·show ((σ.map fun i => inner.getD i (.slice none 0 0)).drop (j * 1)).take 1 = [v]
    rw [Nat.mul_one, List.drop_eq_getElem_cons (by rw [List.length_map]; exact hjl), List.take_succ_cons, List.take_zero, List.getElem_map, List.getD_eq_getElem?_getD, e]
    rfl
   ·refine Kd.R_mono (Kd.R_step hR (w1 := W') (fun k hk hlt => hW k (hne k hk.1.2) hlt)) (fun k hk => ⟨⟨hk.1.1, ?_⟩, ?_⟩)
    ·exact hk.1.2
    ·show σ.idxOf (f k) = j
     rw [hk.2]
     exact hnd.idxOf_getElem j hjl
theorem impl_PairCycles.frz {W : World} {g j : Nat} {cur : Array Value} {e : TypeId} (h : W.heap[g]? = some (.cells cur e (0, 0))) : W.frozen? ⟨g, j, none⟩ = false := blk_frozen h j
/-- slices.SortFunc(rows, slices.Compare) on rows of the call's own. -/
theorem impl_PairCycles.sorts {W w0 : World} {v : Value} {base : Nat} {ok : Nat → Prop} {xs : List (List Int)} (h : Kd.S (Kd.slice 3 (Kd.int .i64)) 23 W base ok v xs) (hB : Below base w0 W) (hbase : base ≤ W.heap.size) (hl : xs.length ≤ 100000) (hr : ∀ r ∈ xs, r.length ≤ 1000000) :
  Calls Try.prog 35 #[v, .func (.func 36) #[] #[]] W fun e W' => e = .returned (.tuple #[]) ∧ Kd.S (Kd.slice 3 (Kd.int .i64)) 23 W' base ok v (impl_PairCycles.srt xs) ∧ Below base w0 W' := by
 obtain ⟨A, c, rfl⟩ := Kd.S_slice h
 cases A with
 | none =>
  have hz : xs = [] := by
   obtain ⟨inner, ho⟩ := Kd.S_own h
   rcases ho.2 with ⟨_, h1⟩ | ⟨g, cap, cur, hv, _⟩
   ·exact List.eq_nil_of_length_eq_zero h1
   ·injection hv with hv
    cases hv
  subst hz
  refine (Go.Proofs.AnyF.slices_SortFunc_none { impl_PairCycles.lay with } none c _ W).mono ?_
  rintro e W' ⟨rfl, rfl⟩
  refine ⟨rfl, ?_, hB⟩
  have e : impl_PairCycles.srt [] = [] := by unfold impl_PairCycles.srt; simp
  rw [e]
  exact h
 | some ad =>
  obtain ⟨g, rfl⟩ := Kd.R_head (Kd.S_R h)
  obtain ⟨cur, enc, _, hg, hh, h1, h2, h3, h4, h5, h6, h7⟩ := impl_PairCycles.parts h
  have hsz : (Array.range xs.length).size = xs.length := Array.size_range
  have hgl : g < W.heap.size := (Array.getElem?_eq_some_iff.1 hh).1
  have hrow : ∀ i, (xs.getD i []).length ≤ 1000000 := fun i => by
   by_cases hi : i < xs.length
   ·rw [List.getD_eq_getElem?_getD, List.getElem?_eq_getElem hi]
    exact hr _ (List.getElem_mem hi)
   ·rw [List.getD_eq_getElem?_getD, List.getElem?_eq_none (by omega)]
    exact Nat.zero_le _
  have hkeep : ∀ (n : Nat) (d : Array Nat) (os : Array Obj) (k : Nat), k ≠ g → k < W.heap.size → (Go.Proofs.sortWorld enc W g 0 n d os).heap[k]? = W.heap[k]? := fun n d os k hk hlt => (impl_PairCycles.grown enc d).block k hlt (fun e => hk (by injection e))
  have hH : Sort.Holds enc W g 0 (Array.range xs.length) := by
   intro j hj
   rw [hsz] at hj
   refine ⟨?_, blk_frozen hh _⟩
   have h8 : (cur.toList.take xs.length)[j]? = ((List.range xs.length).map enc)[j]? := by rw [h5]
   rw [List.getElem?_take_of_lt hj, List.getElem?_map, List.getElem?_range hj] at h8
   have h9 : (Array.range xs.length)[j]! = j := by rw [getElem!_pos _ j (by rw [hsz]; exact hj)]; exact Array.getElem_range ..
   rw [h9, Nat.zero_add]
   refine (blk_cell hh j).trans ?_
   rw [← Array.getElem?_toList, h8]
   rfl
  have hcmp : Go.Proofs.CmpLays1 Try.prog 36 #[] enc (fun i j => impl_PairCycles.cmp (xs.getD i []) (xs.getD j [])) g 0 (Array.range xs.length).size W := by
   refine Go.Proofs.CmpReads.lays ?_
   intro m os dk _ x y
   obtain ⟨A1, c1, e1, l1, r1⟩ := h6 x
   obtain ⟨A2, c2, e2, l2, r2⟩ := h6 y
   have hc := slices_Compare_int_int.calls _ A1 c1 _ A2 c2 _ _ (Go.Proofs.sortWorld enc W g 0 m dk os) (r1 _ (hkeep m dk os)) l1 (r2 _ (hkeep m dk os)) l2 (impl_PairCycles.cmp_f _ (xs.getD y []) (hrow x))
   rw [e1, e2]
   refine hc.mono ?_
   rintro e w' ⟨rfl, ⟨nd, rfl⟩⟩
   exact ⟨rfl, nd, rfl⟩
  have eg : ∀ (args : Array Value) (w : World), (callFunc 36 args).run Try.prog w = .ok (.enter 36 args) w := enters_of Try.func36 (by kernel_rfl) rfl
  have hs := Go.Proofs.Any.slices_SortFunc impl_PairCycles.lay enc h4 _ (impl_PairCycles.swo fun i => xs.getD i []) 36 #[] g 0 c (Array.range xs.length) W eg hcmp hH hgl (by rw [hsz]; omega)
  rw [hsz] at hs
  refine hs.mono ?_
  rintro e W' ⟨rfl, d', n, os, hp, hd, rfl⟩
  have hds : d'.size = xs.length := hp.1.trans hsz
  have hperm : d'.toList.Perm (List.range xs.length) := by
   have h8 := hp.2.2
   have e1 : d'.extract 0 xs.length = d' := by rw [← hds]; exact Array.extract_size
   have e2 : (Array.range xs.length).extract 0 xs.length = Array.range xs.length := by
    have := @Array.extract_size _ (Array.range xs.length)
    rwa [hsz] at this
   rw [e1, e2, Array.toList_range] at h8
   exact h8
  refine ⟨rfl, ?_, hB.grown (impl_PairCycles.grown enc d') hbase (fun j hj => by cases hj; exact hg)⟩
  have hS := h7 d'.toList _ hperm (hkeep n d' os) ⟨_, impl_PairCycles.heap_at enc d' hh, by simp [Sort.putCells, h3], by rw [← hds]; exact impl_PairCycles.take_put enc cur d' (by omega)⟩
  have e := impl_PairCycles.srt_eq xs (d'.toList.map fun i => xs.getD i []) ?_ ?_
  ·rw [e] at hS
   exact hS
  ·have h8 := hperm.map (fun i => xs.getD i [])
   have h9 : (List.range xs.length).map (fun i => xs.getD i []) = xs := by
    apply List.ext_getElem
    ·rw [List.length_map, List.length_range]
    ·intro i i1 i2
     rw [List.getElem_map, List.getElem_range, List.getD_eq_getElem?_getD, List.getElem?_eq_getElem i2]
     rfl
   rwa [h9] at h8
  ·rw [List.pairwise_map, List.pairwise_iff_getElem]
   intro i j hi hj hij
   have h8 := hd i j (Nat.zero_le _) hij (by rw [Array.length_toList, hds] at hj; exact hj)
   rw [Array.length_toList] at hi hj
   rw [getElem!_pos _ i hi, getElem!_pos _ j hj] at h8
   unfold Go.Proofs.ltOf at h8
   dsimp only at h8
   rw [decide_eq_false_iff_not] at h8
   have h9 := impl_PairCycles.c_swap (xs.getD d'[i] []) (xs.getD d'[j] [])
   show impl_PairCycles.cmp (xs.getD d'.toList[i] []) (xs.getD d'.toList[j] []) ≤ 0
   rw [Array.getElem_toList, Array.getElem_toList]
   omega
def impl_PairCycles.turns (k : Nat) : List (List (Int × Int)) → Option (List (List Int))
 | [] => some []
 | q :: O => (impl_turnedFirst.f k q).bind fun r => (impl_PairCycles.turns k O).bind fun R => some (r :: R)
theorem impl_PairCycles.mono_t (k : Nat) : ∀ O, LeO (impl_PairCycles.turns k O) (impl_PairCycles.turns (k + 1) O)
 | [] => LeO.refl _
 | q :: O => by
  rw [impl_PairCycles.turns, impl_PairCycles.turns]
  exact LeO.bind (impl_turnedFirst.mono q k) (fun r => LeO.bind (impl_PairCycles.mono_t k O) (fun R => LeO.refl _))
theorem impl_PairCycles.turns_len (k : Nat) : ∀ O R, impl_PairCycles.turns k O = some R → R.length = O.length
 | [], R, h => by cases h; rfl
 | q :: O, R, h => by
  rw [impl_PairCycles.turns] at h
  obtain ⟨r, h1, h2⟩ := Option.bind_eq_some_iff.mp h
  obtain ⟨R', h3, h4⟩ := Option.bind_eq_some_iff.mp h2
  cases h4
  rw [List.length_cons, List.length_cons, impl_PairCycles.turns_len k O R' h3]
def impl_PairCycles.f (k : Nat) (a a2 s m b : Int) (bw : Bool) (x : Int) : Option (List (List Int) × Bool) := (impl_Second_isScanned.f a a2 s m b bw x).bind fun g => if g = true then ((impl_Second_cycles.f k a a2 s m b bw x).bind fun O => if O.length ≤ 100000 then ((impl_PairCycles.turns k O).bind fun R => if R.length ≤ 100000 ∧ ∀ r ∈ R, r.length ≤ 1000000 then some (impl_PairCycles.srt R, true) else none) else none) else some ([], false)
theorem impl_PairCycles.mono : ∀ a a2 s m b bw x k, LeO (impl_PairCycles.f k a a2 s m b bw x) (impl_PairCycles.f (k + 1) a a2 s m b bw x) := by
 intro a a2 s m b bw x k
 unfold impl_PairCycles.f
 exact LeO.bind (LeO.refl _) (fun g => LeO.ite (LeO.bind (impl_Second_cycles.mono _ _ _ _ _ _ _ _) (fun O => LeO.ite (LeO.bind (impl_PairCycles.mono_t k O) (fun R => LeO.refl _)) (LeO.none _))) (LeO.refl _))
theorem impl_PairCycles.at_ {w : World} {A : Option Addr} {n : Nat} {xs : List (List (Int × Int))} (h : Kd.C (Kd.slice 87 (Kd.pair (Kd.int .i64) (Kd.int .i64))) w A n xs) (i : Int) (h0 : 0 ≤ i) (h1 : i < n) : ∃ ad A0 c0, A = some ad ∧ w.cell? (ad.add i.toNat) = some (.slice A0 (xs.getD i.toNat []).length c0) ∧ (xs.getD i.toNat []).length ≤ c0 ∧ (Kd.pair (Kd.int .i64) (Kd.int .i64)).C w A0 (xs.getD i.toNat []).length (xs.getD i.toNat []) := by
 obtain ⟨ad, c, e, _, hK, hc0⟩ := Kd.C_get h ([] : List (Int × Int)) i h0 h1
 have hc : ∀ j u, c[j]? = some u → w.cell? (ad.add (i.toNat * 1 + j)) = some u := hc0
 obtain ⟨A0, c0, rfl, l0, g0⟩ := hK
 exact ⟨ad, A0, c0, e, by have hq := hc 0 _ rfl; rwa [Nat.mul_one, Nat.add_zero] at hq, l0, g0⟩
set_option maxHeartbeats 8000000 in
set_option maxRecDepth 100000 in
theorem impl_PairCycles.calls (k : Nat) (a a2 s m b : Int) (bw : Bool) (x : Int) (r1 : List (List Int)) (r2 : Bool) (w : World) (h : impl_PairCycles.f k a a2 s m b bw x = some (r1, r2)) :
  Calls Try.prog 17 #[.agg #[.int .i64 a, .int .i64 a2, .int .i64 s, .int .i64 m, .int .i64 b, .bool bw], .int .i64 x] w fun e w' => ∃ v0_ : Value, e = .returned (.tuple #[v0_, .bool r2]) ∧ Kd.S (Kd.slice 3 (Kd.int .i64)) 23 w' w.heap.size (fun _ => True) v0_ r1 ∧ Below w.heap.size w w' := by
 unfold impl_PairCycles.f at h
 obtain ⟨t, A0_, h1⟩ := Option.bind_eq_some_iff.mp h
 have A0 := Aside0.mk A0_
 have HB := Aside0.mk (Below.refl w.heap.size w)
 clear h A0_
 go_enter Try.func17, Try.ntmps17
 cases t with
 | false =>
  rw [if_neg (by decide)] at h1
  injection h1 with h1
  injection h1 with e1 e2
  subst e1
  subst e2
  go_wp2_with (first
   | ((with_reducible refine gate_dst (N := 2) rfl ?_); refine box_event ?hg (N := 2) ?hd (cs := #[.int .i64 a, .int .i64 a2, .int .i64 s, .int .i64 m, .int .i64 b, .bool bw]) (t := 44) ?hr ?_; (case hd => rfl); (case hg => rfl); (case hr => first | (go_simp; done) | (go_simp; rfl)); intro gf hgf w1 hbf hb; have m0_ := Aside0.mk (below_step HB.out hb); clear HB hb hgf; have HB := m0_; clear m0_; have BF := Aside0.mk hbf; clear hbf; have cf0 := (blk_cell BF.out 0).trans (show (#[.int .i64 a, .int .i64 a2, .int .i64 s, .int .i64 m, .int .i64 b, .bool bw] : Array Value)[0]? = some (.int .i64 a) from rfl); have cf1 := (blk_cell BF.out 1).trans (show (#[.int .i64 a, .int .i64 a2, .int .i64 s, .int .i64 m, .int .i64 b, .bool bw] : Array Value)[1]? = some (.int .i64 a2) from rfl); have cf2 := (blk_cell BF.out 2).trans (show (#[.int .i64 a, .int .i64 a2, .int .i64 s, .int .i64 m, .int .i64 b, .bool bw] : Array Value)[2]? = some (.int .i64 s) from rfl); have cf3 := (blk_cell BF.out 3).trans (show (#[.int .i64 a, .int .i64 a2, .int .i64 s, .int .i64 m, .int .i64 b, .bool bw] : Array Value)[3]? = some (.int .i64 m) from rfl); have cf4 := (blk_cell BF.out 4).trans (show (#[.int .i64 a, .int .i64 a2, .int .i64 s, .int .i64 m, .int .i64 b, .bool bw] : Array Value)[4]? = some (.int .i64 b) from rfl); have cf5 := (blk_cell BF.out 5).trans (show (#[.int .i64 a, .int .i64 a2, .int .i64 s, .int .i64 m, .int .i64 b, .bool bw] : Array Value)[5]? = some (.bool bw) from rfl))
   | (go_at_call 32; ((with_reducible refine (impl_Second_isScanned.calls a a2 s m b bw x _ _ A0.out).mono ?_); rintro e w2 ⟨rfl, hb⟩; have m0_ := Aside0.mk (below_step HB.out hb); have m1_ := Aside0.mk (blk_below BF.out hb); clear HB BF hb cf0 cf1 cf2 cf3 cf4 cf5; have HB := m0_; have BF := m1_; clear m0_ m1_; have cf0 := (blk_cell BF.out 0).trans (show (#[.int .i64 a, .int .i64 a2, .int .i64 s, .int .i64 m, .int .i64 b, .bool bw] : Array Value)[0]? = some (.int .i64 a) from rfl); have cf1 := (blk_cell BF.out 1).trans (show (#[.int .i64 a, .int .i64 a2, .int .i64 s, .int .i64 m, .int .i64 b, .bool bw] : Array Value)[1]? = some (.int .i64 a2) from rfl); have cf2 := (blk_cell BF.out 2).trans (show (#[.int .i64 a, .int .i64 a2, .int .i64 s, .int .i64 m, .int .i64 b, .bool bw] : Array Value)[2]? = some (.int .i64 s) from rfl); have cf3 := (blk_cell BF.out 3).trans (show (#[.int .i64 a, .int .i64 a2, .int .i64 s, .int .i64 m, .int .i64 b, .bool bw] : Array Value)[3]? = some (.int .i64 m) from rfl); have cf4 := (blk_cell BF.out 4).trans (show (#[.int .i64 a, .int .i64 a2, .int .i64 s, .int .i64 m, .int .i64 b, .bool bw] : Array Value)[4]? = some (.int .i64 b) from rfl); have cf5 := (blk_cell BF.out 5).trans (show (#[.int .i64 a, .int .i64 a2, .int .i64 s, .int .i64 m, .int .i64 b, .bool bw] : Array Value)[5]? = some (.bool bw) from rfl))))
  go_ret2
  exact ⟨_, rfl, Kd.S_nil _ _ _ _ _, HB.out⟩
 | true =>
  rw [if_pos rfl] at h1
  obtain ⟨O, A1_, h2⟩ := Option.bind_eq_some_iff.mp h1
  by_cases hO : O.length ≤ 100000
  case neg => rw [if_neg hO] at h2; cases h2
  rw [if_pos hO] at h2
  obtain ⟨R, A2_, h3⟩ := Option.bind_eq_some_iff.mp h2
  by_cases hR : R.length ≤ 100000 ∧ ∀ r ∈ R, r.length ≤ 1000000
  case neg => rw [if_neg hR] at h3; cases h3
  rw [if_pos hR] at h3
  have h3 := Option.some.inj h3
  injection h3 with e1 e2
  subst e1
  subst e2
  have A1 := Aside0.mk A1_
  have A2 := Aside0.mk A2_
  have HOL := Aside0.mk hO
  have HRL := Aside0.mk hR
  clear h1 h2 A1_ A2_ hO hR h3
  go_wp2_with (first
   | ((with_reducible refine gate_dst (N := 2) rfl ?_); refine box_event ?hg (N := 2) ?hd (cs := #[.int .i64 a, .int .i64 a2, .int .i64 s, .int .i64 m, .int .i64 b, .bool bw]) (t := 44) ?hr ?_; (case hd => rfl); (case hg => rfl); (case hr => first | (go_simp; done) | (go_simp; rfl)); intro gf hgf w1 hbf hb; have m0_ := Aside0.mk (below_step HB.out hb); clear HB hb hgf; have HB := m0_; clear m0_; have BF := Aside0.mk hbf; clear hbf; have cf0 := (blk_cell BF.out 0).trans (show (#[.int .i64 a, .int .i64 a2, .int .i64 s, .int .i64 m, .int .i64 b, .bool bw] : Array Value)[0]? = some (.int .i64 a) from rfl); have cf1 := (blk_cell BF.out 1).trans (show (#[.int .i64 a, .int .i64 a2, .int .i64 s, .int .i64 m, .int .i64 b, .bool bw] : Array Value)[1]? = some (.int .i64 a2) from rfl); have cf2 := (blk_cell BF.out 2).trans (show (#[.int .i64 a, .int .i64 a2, .int .i64 s, .int .i64 m, .int .i64 b, .bool bw] : Array Value)[2]? = some (.int .i64 s) from rfl); have cf3 := (blk_cell BF.out 3).trans (show (#[.int .i64 a, .int .i64 a2, .int .i64 s, .int .i64 m, .int .i64 b, .bool bw] : Array Value)[3]? = some (.int .i64 m) from rfl); have cf4 := (blk_cell BF.out 4).trans (show (#[.int .i64 a, .int .i64 a2, .int .i64 s, .int .i64 m, .int .i64 b, .bool bw] : Array Value)[4]? = some (.int .i64 b) from rfl); have cf5 := (blk_cell BF.out 5).trans (show (#[.int .i64 a, .int .i64 a2, .int .i64 s, .int .i64 m, .int .i64 b, .bool bw] : Array Value)[5]? = some (.bool bw) from rfl))
   | (go_at_call 32; ((with_reducible refine (impl_Second_isScanned.calls a a2 s m b bw x _ _ A0.out).mono ?_); rintro e w2 ⟨rfl, hb⟩; have m0_ := Aside0.mk (below_step HB.out hb); have m1_ := Aside0.mk (blk_below BF.out hb); clear HB BF hb cf0 cf1 cf2 cf3 cf4 cf5; have HB := m0_; have BF := m1_; clear m0_ m1_; have cf0 := (blk_cell BF.out 0).trans (show (#[.int .i64 a, .int .i64 a2, .int .i64 s, .int .i64 m, .int .i64 b, .bool bw] : Array Value)[0]? = some (.int .i64 a) from rfl); have cf1 := (blk_cell BF.out 1).trans (show (#[.int .i64 a, .int .i64 a2, .int .i64 s, .int .i64 m, .int .i64 b, .bool bw] : Array Value)[1]? = some (.int .i64 a2) from rfl); have cf2 := (blk_cell BF.out 2).trans (show (#[.int .i64 a, .int .i64 a2, .int .i64 s, .int .i64 m, .int .i64 b, .bool bw] : Array Value)[2]? = some (.int .i64 s) from rfl); have cf3 := (blk_cell BF.out 3).trans (show (#[.int .i64 a, .int .i64 a2, .int .i64 s, .int .i64 m, .int .i64 b, .bool bw] : Array Value)[3]? = some (.int .i64 m) from rfl); have cf4 := (blk_cell BF.out 4).trans (show (#[.int .i64 a, .int .i64 a2, .int .i64 s, .int .i64 m, .int .i64 b, .bool bw] : Array Value)[4]? = some (.int .i64 b) from rfl); have cf5 := (blk_cell BF.out 5).trans (show (#[.int .i64 a, .int .i64 a2, .int .i64 s, .int .i64 m, .int .i64 b, .bool bw] : Array Value)[5]? = some (.bool bw) from rfl)))
   | ((with_reducible refine gate_dst (N := 13) rfl ?_); refine Kd.S_lit (Kd.slice 3 (Kd.int .i64)) (w0 := w) w.heap.size 23 ?hg (N := 13) ?hd (xs := ([] : List (List Int))) (inner := []) (ok := fun _ => True) (okp := fun _ => True) ?hr ?hp (fun _ hk => hk) trivial (by repeat (first | exact HB.out | apply below_alloc | apply pw_below_drewN | apply below_drew1)) (below_size (by repeat (first | exact HB.out | apply below_alloc | apply pw_below_drewN | apply below_drew1))) (by simp) ?_; (case hd => rfl); (case hg => rfl); (case hr => first | (go_simp; done) | (go_simp; rfl)); (case hp => exact Reps.none _ _); intro v13 w3 ho hb hg_ hnew_; have m1_ := Aside0.mk (blk_grown BF.out hg_ (fun e => by cases e)); clear HB BF cf0 cf1 cf2 cf3 cf4 cf5; have HB := Aside0.mk hb; have HO := Aside0.mk ho; have BF := m1_; clear m1_ ho hb hg_ hnew_; have cf0 := (blk_cell BF.out 0).trans (show (#[.int .i64 a, .int .i64 a2, .int .i64 s, .int .i64 m, .int .i64 b, .bool bw] : Array Value)[0]? = some (.int .i64 a) from rfl); have cf1 := (blk_cell BF.out 1).trans (show (#[.int .i64 a, .int .i64 a2, .int .i64 s, .int .i64 m, .int .i64 b, .bool bw] : Array Value)[1]? = some (.int .i64 a2) from rfl); have cf2 := (blk_cell BF.out 2).trans (show (#[.int .i64 a, .int .i64 a2, .int .i64 s, .int .i64 m, .int .i64 b, .bool bw] : Array Value)[2]? = some (.int .i64 s) from rfl); have cf3 := (blk_cell BF.out 3).trans (show (#[.int .i64 a, .int .i64 a2, .int .i64 s, .int .i64 m, .int .i64 b, .bool bw] : Array Value)[3]? = some (.int .i64 m) from rfl); have cf4 := (blk_cell BF.out 4).trans (show (#[.int .i64 a, .int .i64 a2, .int .i64 s, .int .i64 m, .int .i64 b, .bool bw] : Array Value)[4]? = some (.int .i64 b) from rfl); have cf5 := (blk_cell BF.out 5).trans (show (#[.int .i64 a, .int .i64 a2, .int .i64 s, .int .i64 m, .int .i64 b, .bool bw] : Array Value)[5]? = some (.bool bw) from rfl))
   | (go_at_call 33; ((with_reducible refine (impl_Second_cycles.calls k a a2 s m b bw x _ _ A1.out).mono ?_); rintro e w4 ⟨v1, rfl, hn, hb⟩; obtain ⟨Ac, cc, rfl⟩ := Kd.N_slice hn; have HZ := Aside0.mk (Kd.S_lt HO.out); have HN := Aside0.mk (Kd.N_mono (Kd.N_lower hn (below_size (by repeat (first | exact HB.out | apply below_alloc | apply pw_below_drewN | apply below_drew1)))) (ok' := fun k_ => True ∧ some k_ ≠ v13.ownBlock) (fun k_ hk_ => ⟨trivial, fun e_ => by have := HZ.out k_ e_.symm; omega⟩)); have m0_ := Aside0.mk (below_step (by repeat (first | exact HB.out | apply below_alloc | apply pw_below_drewN | apply below_drew1)) hb); have m1_ := Aside0.mk (Kd.S_below (by (with_reducible repeat (first | apply Kd.S_alloc | apply Kd.S_drewN | apply Kd.S_drew)); exact HO.out) hb); clear HB HO BF hb cf0 cf1 cf2 cf3 cf4 cf5 hn HZ; have HB := m0_; have HO := m1_; clear m0_ m1_)))
  go_loopg [6, 18] O.length (fun gg v6 v18 w' => ∃ (i : Nat) (Q R' : List (List Int)), v18 = .int .i64 (i : Int) ∧ Aside0 (i ≤ O.length ∧ O.length - i ≤ gg ∧ Q.length = i ∧ Q ++ R' = R ∧ impl_PairCycles.turns k (O.drop i) = some R') ∧ Aside0 (Kd.S (Kd.slice 3 (Kd.int .i64)) 23 w' w.heap.size (fun _ => True) v6 Q) ∧ Aside0 (Below w.heap.size w w') ∧ Aside0 (Kd.N (Kd.slice 87 (Kd.pair (Kd.int .i64) (Kd.int .i64))) 64 w' w.heap.size (fun k_ => True ∧ some k_ ≠ v6.ownBlock) (.slice Ac O.length cc) O))
  case atStart => exact ⟨0, [], R, rfl, ⟨by omega, by omega, rfl, rfl, by rw [List.drop_zero]; exact A2.out⟩, HO, HB, HN⟩
  case round =>
   clear HO HB HN
   obtain ⟨i, Q, R', rfl, HX, HO, HB, HN⟩ := hrel
   by_cases c5 : i < O.length
   ·have c5b0 : decide ((i : Int) < (O.length : Int)) = true := decide_eq_true (by omega)
    have c5b1 : decide (i < O.length) = true := decide_eq_true c5
    have p0 : (0 : Int) ≤ (i : Int) := by omega
    have p1 : (i : Int) < (O.length : Int) := by omega
    obtain ⟨ad, A0', c0', e_, hcell, hcc_, hC_⟩ := impl_PairCycles.at_ (Kd.N_reads' HN.out).2.2 (i : Int) p0 p1
    cases e_
    obtain ⟨q, hq⟩ : ∃ q, O.getD (i : Int).toNat [] = q := ⟨_, rfl⟩
    rw [hq] at hcell hcc_ hC_
    rw [Int.toNat_natCast] at hcell
    have hqi : O[i] = q := by rw [← hq, Int.toNat_natCast, List.getD_eq_getElem?_getD, List.getElem?_eq_getElem c5]; rfl
    obtain ⟨hx1, hx2, hx3, hx4, hx5⟩ := HX.out
    rw [List.drop_eq_getElem_cons c5, impl_PairCycles.turns, hqi] at hx5
    obtain ⟨r, t1_, hx6⟩ := Option.bind_eq_some_iff.mp hx5
    obtain ⟨R2, t2_, hx7⟩ := Option.bind_eq_some_iff.mp hx6
    have hx8 := Option.some.inj hx7
    subst hx8
    have T1 := Aside0.mk t1_
    have HQ := Aside0.mk hC_
    have HQL := Aside0.mk hcc_
    have HX2 := Aside0.mk (show i + 1 ≤ O.length ∧ O.length - (i + 1) ≤ gk - 1 ∧ (Q ++ [r]).length = i + 1 ∧ (Q ++ [r]) ++ R2 = R ∧ impl_PairCycles.turns k (O.drop (i + 1)) = some R2 from ⟨by omega, by omega, by rw [List.length_append, List.length_singleton, hx3], by rw [← hx4]; simp, t2_⟩)
    have HG := Aside0.mk (show 0 < gk by omega)
    have HQN := Aside0.mk (show Q.length ≤ 100000 by rw [hx3]; have := HOL.out; omega)
    have hw1 : wrap64 ((i : Int) + 1) = ((i + 1 : Nat) : Int) := by have := HOL.out; unfold wrap64; omega
    have HW := Aside0.mk hw1
    obtain ⟨Aq, cq, eq_⟩ := Kd.S_slice HO.out
    subst eq_
    clear HX hx1 hx2 hx3 hx4 hx5 hx6 hx7 t1_ t2_ hC_ hcc_ hq hqi hw1 c5
    replace p0 := eq_true p0
    replace p1 := eq_true p1
    go_wp2_with (first
     | (go_at_call 34; ((with_reducible refine (impl_turnedFirst.calls k A0' c0' q r _ (by repeat (first | exact HQ.out | (with_reducible refine Kd.C_alloc ?_ _) | (with_reducible refine Kd.C_drewN ?_ _) | (with_reducible refine Kd.C_drew ?_))) HQL.out T1.out).mono ?_); rintro e w5 ⟨v24, rfl, hr, hb⟩; have HR := Aside0.mk hr; have HRL := Aside0.mk (Kd.R_lower hr (below_size (by repeat (first | exact HB.out | apply below_alloc | apply pw_below_drewN | apply below_drew1)))); have HZ := Aside0.mk (Kd.S_lt HO.out); have m0_ := Aside0.mk (below_step (by repeat (first | exact HB.out | apply below_alloc | apply pw_below_drewN | apply below_drew1)) hb); have m1_ := Aside0.mk (Kd.S_below (Kd.S_mono (Kd.S_bound HO.out) (ok' := fun k_ => k_ < wr.heap.size) (fun k_ hk_ => hk_.2.2.1)) hb); have m2_ := Aside0.mk (Kd.N_below HN.out hb); clear HB HO HN hb hr hcell HQ; have HB := m0_; have HO := m1_; have HN := m2_; clear m0_ m1_ m2_; obtain ⟨Ar, cr, er_⟩ := Kd.R_slice HR.out; subst er_))
     | ((with_reducible refine gate_builtin (b := .append) (xs := #[.tmp 22, .tmp 25]) rfl ?_); at_builtin; refine Kd.S_append (Kd.slice 3 (Kd.int .i64)) (w0 := w) w.heap.size rfl (.tmp 22) (.tmp 25) 39 23 (.slice none 0 0) 24 rfl Try.underlying39 info23 rfl (by decide) (by omega) (.slice Aq Q.length cq) Q r [.slice Ar r.length cr] (fun _ => True) (fun k_ => some k_ = (.slice Ar r.length cr : Value).ownBlock) rfl rfl ?aP ?aK ?aF ?aO ?aB ?aS ?aL ?_; (case aP => exact Kd.M_row (Kd.R_tight rfl HRL.out)); (case aK => exact fun k_ hk_ => ⟨trivial, fun e_ => by have h1_ := Kd.R_base HR.out k_ hk_.symm; have h2_ := HZ.out k_ e_.symm; omega⟩); (case aF => exact fun _ _ => trivial); (case aO => exact Kd.S_mono HO.out (fun k_ hk_ => ⟨trivial, fun e_ => by have h1_ := Kd.R_base HR.out k_ e_.symm; omega⟩)); (case aB => exact (by repeat (first | exact HB.out | apply below_alloc | apply pw_below_drewN | apply below_drew1))); (case aS => exact (below_size (by repeat (first | exact HB.out | apply below_alloc | apply pw_below_drewN | apply below_drew1)))); (case aL => have := HQN.out; omega); intro v26 w9 ho_ hb_ hg_ hat_; have m2_ := Aside0.mk (Kd.N_after HN.out hg_ hat_); clear HO HB HN HR HRL HZ; have HO := Aside0.mk ho_; have HN := m2_; clear m2_ hg_ hat_; have HB := Aside0.mk hb_; clear ho_ hb_))
    go_roundg (gk - 1)
    case measure => have := HG.out; omega
    case rel => exact ⟨i + 1, Q ++ [r], R2, by first | rfl | rw [HW.out], HX2, HO, HB, HN⟩
   ·have c5b0 : decide ((i : Int) < (O.length : Int)) = false := decide_eq_false (by omega)
    have c5b1 : decide (i < O.length) = false := decide_eq_false c5
    obtain ⟨hx1, hx2, hx3, hx4, hx5⟩ := HX.out
    rw [List.drop_eq_nil_of_le (by omega), impl_PairCycles.turns] at hx5
    have hx6 := Option.some.inj hx5
    subst hx6
    rw [List.append_nil] at hx4
    subst hx4
    clear HX hx1 hx2 hx3 hx5 c5 HN
    obtain ⟨Aq, cq, eq_⟩ := Kd.S_slice HO.out
    subst eq_
    go_wp2_with (first
     | (go_at_call 35; ((with_reducible refine (impl_PairCycles.sorts HO.out HB.out (below_size HB.out) HRL.out.1 HRL.out.2).mono ?_); rintro e w5 ⟨rfl, hs, hb⟩; clear HO HB; have HO := Aside0.mk hs; have HB := Aside0.mk hb; clear hs hb)))
    go_ret2
    exact ⟨_, rfl, HO.out, HB.out⟩

/-! ### laws_eqIntS: function 11 -/
def laws_eqIntS.l0 : Nat → List Int → List Int → Int → Option (Bool)
 | 0, _, _, _ => none
 | k + 1, x0, x1, x5 => if x5 < (x0.length : Int) then (if 0 ≤ x5 then (if x5 < (x1.length : Int) then (if (rd x0 x5) = (rd x1 x5) then (laws_eqIntS.l0 k x0 x1 (wrap64 (x5 + 1))) else (some false)) else (none)) else (none)) else (some true)
def laws_eqIntS.f (k : Nat) (l0 : List Int) (l1 : List Int) : Option (Bool) := if (l0.length : Int) = (l1.length : Int) then (laws_eqIntS.l0 k l0 l1 0) else (some false)
theorem laws_eqIntS.mono_l : ∀ k, (∀ y0 y1 y2, LeO (laws_eqIntS.l0 k y0 y1 y2) (laws_eqIntS.l0 (k + 1) y0 y1 y2))
 | 0 => fun _ _ _ r h => by simp [laws_eqIntS.l0] at h
 | k + 1 => by
  have ih0 := laws_eqIntS.mono_l k
  ·intro y0 y1 y2
   unfold laws_eqIntS.l0
   repeat' first
   | (with_reducible exact ih0 _ _ _)
   | (with_reducible exact LeO.refl _)
   | (with_reducible exact LeO.none _)
   | (with_reducible refine LeO.ite ?_ ?_)
   | (with_reducible refine LeO.bind ?_ (fun _ => ?_))
   | exact ih0 _ _ _
   | exact LeO.none _
   | refine LeO.ite ?_ ?_
   | refine LeO.bind ?_ (fun _ => ?_)
theorem laws_eqIntS.mono : ∀ a0 a1 k, LeO (laws_eqIntS.f k a0 a1) (laws_eqIntS.f (k + 1) a0 a1) := by
 intro a0 a1 k
 have ih0 := laws_eqIntS.mono_l k
 unfold laws_eqIntS.f
 repeat' first
   | (with_reducible exact ih0 _ _ _)
   | (with_reducible exact LeO.refl _)
   | (with_reducible exact LeO.none _)
   | (with_reducible refine LeO.ite ?_ ?_)
   | (with_reducible refine LeO.bind ?_ (fun _ => ?_))
   | exact ih0 _ _ _
   | exact LeO.none _
   | refine LeO.ite ?_ ?_
   | refine LeO.bind ?_ (fun _ => ?_)
set_option maxHeartbeats 8000000 in
set_option maxRecDepth 100000 in
theorem laws_eqIntS.calls (k : Nat) (A0 : Option Addr) (c0 : Nat) (l0 : List Int) (A1 : Option Addr) (c1 : Nat) (l1 : List Int) (r : Bool) (w : World) (hr0 : Kd.C (Kd.int .i64) w A0 l0.length l0) (hc0 : l0.length ≤ c0) (hr1 : Kd.C (Kd.int .i64) w A1 l1.length l1) (hc1 : l1.length ≤ c1) (h : laws_eqIntS.f k l0 l1 = some r) :
  Calls Try.prog 11 #[.slice A0 l0.length c0, .slice A1 l1.length c1] w fun e w' => e = .returned (.bool r) ∧ Drawn0 w w' := by
 have HR0 := Aside0.mk hr0
 have HC0 := Aside0.mk hc0
 clear hr0 hc0
 have HR1 := Aside0.mk hr1
 have HC1 := Aside0.mk hc1
 clear hr1 hc1
 have H : (if (l0.length : Int) = (l1.length : Int) then (laws_eqIntS.l0 k l0 l1 0) else (some false)) = some r := h
 clear h
 by_cases c3 : (l0.length : Int) = (l1.length : Int)
 ·rw [if_pos c3] at H
  have c3b0 : ((l0.length : Int) == (l1.length : Int)) = true := beq_iff_eq.mpr c3
  have c3b1 : ((l0.length : Int) != (l1.length : Int)) = false := bne_eq_false_iff_eq.mpr c3
  have c3b2 : (l0.length == l1.length) = true := by first | simpa using c3 | (simp at c3 ⊢; omega)
  clear c3
  have H' := Aside0.mk H
  clear H
  go_enter Try.func11, Try.ntmps11
  go_wp2
  repeat (go_quiet (fail); try go_wp2)
  go_loopg [5] k (fun kq v5 w' => ∃ (x5_1 : Int), v5 = .int .i64 x5_1 ∧ Aside0 (laws_eqIntS.l0 kq l0 l1 x5_1 = some r) ∧ Aside0 (kq ≤ k) ∧ Drawn0 w w')
  case atStart => exact ⟨(0), (by first | rfl | (simp [*]; done)), H', ⟨Nat.le_refl _⟩, by repeat (first | exact Drawn0.refl _ | apply Drawn0.step)⟩
  case round =>
   clear H'
   try clear c1
   try clear p2
   try clear c3
   try clear c3b0
   try clear c3b1
   try clear c3b2
   obtain ⟨x5_1, rfl, HA, HK1, ⟨m1, rfl⟩⟩ := hrel
   cases gk with
   | zero => exact absurd HA.out (by simp [laws_eqIntS.l0])
   | succ k1 =>
    have H := HA.out
    clear HA
    simp only [laws_eqIntS.l0] at H
    by_cases c4 : x5_1 < (l0.length : Int)
    ·rw [if_pos c4] at H
     have c4b0 : decide (x5_1 < (l0.length : Int)) = true := decide_eq_true c4
     clear c4
     by_cases c5 : 0 ≤ x5_1
     ·rw [if_pos c5] at H
      have c5b0 : decide (0 ≤ x5_1) = true := decide_eq_true c5
      clear c5
      by_cases c6 : x5_1 < (l1.length : Int)
      ·rw [if_pos c6] at H
       have c6b0 : decide (x5_1 < (l1.length : Int)) = true := decide_eq_true c6
       clear c6
       by_cases c7 : (rd l0 x5_1) = (rd l1 x5_1)
       ·rw [if_pos c7] at H
        have c7b0 : ((rd l0 x5_1) == (rd l1 x5_1)) = true := beq_iff_eq.mpr c7
        have c7b1 : ((rd l0 x5_1) != (rd l1 x5_1)) = false := bne_eq_false_iff_eq.mpr c7
        clear c7
        have H' := Aside0.mk H
        clear H
        have p284 : 0 ≤ (x5_1 : Int) := of_decide_eq_true (by first | (with_reducible assumption) | assumption)
        have q284 : x5_1 < (l0.length : Int) := of_decide_eq_true (by first | (with_reducible assumption) | assumption)
        obtain ⟨ad284, e284, hx284_0⟩ := Kd.at_int HR0.out x5_1 p284 q284
        cases e284
        replace p284 := eq_true p284
        replace q284 := eq_true q284
        have p285 : 0 ≤ (x5_1 : Int) := of_decide_eq_true (by first | (with_reducible assumption) | assumption)
        have q285 : x5_1 < (l1.length : Int) := of_decide_eq_true (by first | (with_reducible assumption) | assumption)
        obtain ⟨ad285, e285, hx285_0⟩ := Kd.at_int HR1.out x5_1 p285 q285
        cases e285
        replace p285 := eq_true p285
        replace q285 := eq_true q285
        go_wp2
        repeat (go_quiet (fail); try go_wp2)
        go_roundg k1
        case measure => have := HK1.out; omega
        case rel => exact ⟨(wrap64 (x5_1 + 1)), (by first | rfl | (simp [*]; done)), H', ⟨by have := HK1.out; omega⟩, by repeat (first | exact Drawn0.refl _ | apply Drawn0.step)⟩
       ·rw [if_neg c7] at H
        have c7b0 : ((rd l0 x5_1) == (rd l1 x5_1)) = false := beq_eq_false_iff_ne.mpr c7
        have c7b1 : ((rd l0 x5_1) != (rd l1 x5_1)) = true := bne_iff_ne.mpr c7
        obtain rfl := Option.some.inj H
        have p284 : 0 ≤ (x5_1 : Int) := of_decide_eq_true (by first | (with_reducible assumption) | assumption)
        have q284 : x5_1 < (l0.length : Int) := of_decide_eq_true (by first | (with_reducible assumption) | assumption)
        obtain ⟨ad284, e284, hx284_0⟩ := Kd.at_int HR0.out x5_1 p284 q284
        cases e284
        replace p284 := eq_true p284
        replace q284 := eq_true q284
        have p285 : 0 ≤ (x5_1 : Int) := of_decide_eq_true (by first | (with_reducible assumption) | assumption)
        have q285 : x5_1 < (l1.length : Int) := of_decide_eq_true (by first | (with_reducible assumption) | assumption)
        obtain ⟨ad285, e285, hx285_0⟩ := Kd.at_int HR1.out x5_1 p285 q285
        cases e285
        replace p285 := eq_true p285
        replace q285 := eq_true q285
        go_wp2
        repeat (go_quiet (fail); try go_wp2)
        go_ret
        exact ⟨by first | rfl | (simp; done) | (simp [*]; done), by repeat (first | exact Drawn0.refl _ | apply Drawn0.step)⟩
      ·rw [if_neg c6] at H
       exact absurd H (by simp)
     ·rw [if_neg c5] at H
      exact absurd H (by simp)
    ·rw [if_neg c4] at H
     have c4b0 : decide (x5_1 < (l0.length : Int)) = false := decide_eq_false c4
     clear c4
     obtain rfl := Option.some.inj H
     go_wp2
     repeat (go_quiet (fail); try go_wp2)
     go_ret
     exact ⟨by first | rfl | (simp; done) | (simp [*]; done), by repeat (first | exact Drawn0.refl _ | apply Drawn0.step)⟩
 ·rw [if_neg c3] at H
  have c3b0 : ((l0.length : Int) == (l1.length : Int)) = false := beq_eq_false_iff_ne.mpr c3
  have c3b1 : ((l0.length : Int) != (l1.length : Int)) = true := bne_iff_ne.mpr c3
  have c3b2 : (l0.length == l1.length) = false := by first | simpa using c3 | (simp at c3 ⊢; omega)
  obtain rfl := Option.some.inj H
  go_enter Try.func11, Try.ntmps11
  go_wp2
  repeat (go_quiet (fail); try go_wp2)
  go_ret
  exact ⟨by first | rfl | (simp; done) | (simp [*]; done), by repeat (first | exact Drawn0.refl _ | apply Drawn0.step)⟩

end Go.Proofs.Ytmkcmclochhkeaa.PFnExactPairCycles
