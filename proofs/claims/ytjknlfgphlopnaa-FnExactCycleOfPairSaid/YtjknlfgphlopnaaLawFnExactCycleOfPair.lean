-- Written by this session's pp.py over the kit's print.
import Derived.Test.YtjknlfgphlopnaaRows
import Derived.Test.YtjknlfgphlopnaaPFnExactCycleOfPairx10
import Derived.Test.YtjknlfgphlopnaaPureFnExactCycleOfPair
import Derived.WalkKit
import Derived.ProofKit
import Derived.OpenShut
import Derived.ShutString
import Derived.ChangeOld
import Derived.Below
import Derived.SizedLaws
import Derived.Test.YtjknlfgphlopnaaPFnExactCycleOfPairw1
namespace Go.Proofs.Ytjknlfgphlopnaa.fnExactCycleOfPair
open Go.ChangeShapes Go.WideShapes Go.ChangeAt Go.RowKit
open Go.ChangeMaps (open_string shut_string)
set_option linter.unusedVariables false
theorem own : ownKnob Try.prog.godebug = none := by kernel_rfl
theorem laidOut : laidOutB Try.prog = true := by kernel_rfl
def IsRow (k : IntKind) (w : World) (a : Option Addr) (len cap : Nat) (zs : List Int) : Prop :=
  (a = none ∧ len = 0 ∧ cap = 0 ∧ zs = []) ∨
  ∃ x, a = some x ∧ len ≤ cap ∧ cap ≤ maxLen ∧ zs.length = cap ∧ (∀ i, i < zs.length → w.cell? (x.add i) = some (.int k (zs.getD i 0))) ∧ ∀ n ∈ zs, (Lit.int k n).wf = true
set_option linter.unusedSimpArgs false
theorem cells_3 : Try.prog.cellsOf 3 = 1 := by kernel_rfl
theorem cells_23 : Try.prog.cellsOf 23 = 2 := by kernel_rfl
theorem cells_4 : Try.prog.cellsOf 4 = 1 := by kernel_rfl
theorem list_2 {α : Type} {l : List α} (h : l.length = 2) : ∃ a0 a1, l = [a0, a1] := by
  match l, h with
  | [a0, a1], _ => exact ⟨a0, a1, rfl⟩
set_option maxRecDepth 100000 in
theorem openT23 {H : Type} {enc : TypeId × Value → H} {w : World} {base : Nat} {spare : Nat → Bool} {held : Bool} {fuel : Nat} {cs : List Value} {x : DataW H × List MemPlace} (h : DataW.trod enc Try.prog w base spare held fuel 23 cs = some x) :
    ∃ (a0 : Int) (a1 : Bool), cs = [.int .i64 a0, .bool a1] ∧ (Lit.int .i64 a0).wf = true := by
  obtain ⟨xs, n, _, _, hl, hlen, hg⟩ := DataW.trod_struct Try.underlying23 h
  obtain ⟨b0, b1, rfl⟩ := list_2 (hl.trans cells_23)
  obtain ⟨y0, y1, rfl⟩ := list_2 hlen
  have g0 := hg 0 _ rfl
  obtain ⟨a0, e0, _, wa0⟩ := DataW.trod_int Try.underlying3 g0
  simp [cells_3, Value.cells] at e0
  subst e0
  have g1 := hg 1 _ rfl
  obtain ⟨a1, e1, _⟩ := DataW.trod_bool Try.underlying4 g1
  simp [cells_4, Value.cells] at e1
  subst e1
  exact ⟨a0, a1, rfl, wa0⟩
theorem cells_37 : Try.prog.cellsOf 37 = 6 := by kernel_rfl
theorem list_6 {α : Type} {l : List α} (h : l.length = 6) : ∃ a0 a1 a2 a3 a4 a5, l = [a0, a1, a2, a3, a4, a5] := by
  match l, h with
  | [a0, a1, a2, a3, a4, a5], _ => exact ⟨a0, a1, a2, a3, a4, a5, rfl⟩
theorem list_5 {α : Type} {l : List α} (h : l.length = 5) : ∃ a0 a1 a2 a3 a4, l = [a0, a1, a2, a3, a4] := by
  match l, h with
  | [a0, a1, a2, a3, a4], _ => exact ⟨a0, a1, a2, a3, a4, rfl⟩
set_option maxRecDepth 100000 in
theorem openT37 {H : Type} {enc : TypeId × Value → H} {w : World} {base : Nat} {spare : Nat → Bool} {held : Bool} {fuel : Nat} {cs : List Value} {x : DataW H × List MemPlace} (h : DataW.trod enc Try.prog w base spare held fuel 37 cs = some x) :
    ∃ (a0 : Int) (a1 : Int) (a2 : Int) (a3 : Int) (a4 : Int) (a5 : Bool), cs = [.int .i64 a0, .int .i64 a1, .int .i64 a2, .int .i64 a3, .int .i64 a4, .bool a5] ∧ (Lit.int .i64 a0).wf = true ∧ (Lit.int .i64 a1).wf = true ∧ (Lit.int .i64 a2).wf = true ∧ (Lit.int .i64 a3).wf = true ∧ (Lit.int .i64 a4).wf = true := by
  obtain ⟨xs, n, _, _, hl, hlen, hg⟩ := DataW.trod_struct Try.underlying37 h
  obtain ⟨b0, b1, b2, b3, b4, b5, rfl⟩ := list_6 (hl.trans cells_37)
  obtain ⟨y0, y1, y2, y3, y4, rfl⟩ := list_5 hlen
  have g0 := hg 0 _ rfl
  obtain ⟨a0, e0, _, wa0⟩ := DataW.trod_int Try.underlying3 g0
  simp [cells_3, Value.cells] at e0
  subst e0
  have g1 := hg 1 _ rfl
  obtain ⟨a1, e1, _, wa1⟩ := DataW.trod_int Try.underlying3 g1
  simp [cells_3, Value.cells] at e1
  subst e1
  have g2 := hg 2 _ rfl
  obtain ⟨a2, e2, _, wa2⟩ := DataW.trod_int Try.underlying3 g2
  simp [cells_3, Value.cells] at e2
  subst e2
  have g3 := hg 3 _ rfl
  obtain ⟨a3, e3, _, wa3⟩ := DataW.trod_int Try.underlying3 g3
  simp [cells_3, Value.cells] at e3
  subst e3
  have g4 := hg 4 _ rfl
  obtain ⟨a4, a5, e4, wa4⟩ := openT23 g4
  simp [cells_23, Value.cells] at e4
  obtain ⟨e4_0, e4_1⟩ := e4
  subst e4_0 e4_1
  exact ⟨a0, a1, a2, a3, a4, a5, rfl, wa0, wa1, wa2, wa3, wa4⟩
set_option maxRecDepth 100000 in
theorem openV37 {H : Type} {enc : TypeId × Value → H} {w : World} {base : Nat} {spare : Nat → Bool} {held : Bool} {r : Reach} {b0 : Nat} {v : Value} {d : DataW H} {p : List MemPlace} (hv : Value.okWide Try.prog w r b0 37 v) (h : DataW.Trod enc Try.prog w base spare held 37 v d p) :
    ∃ (a0 : Int) (a1 : Int) (a2 : Int) (a3 : Int) (a4 : Int) (a5 : Bool), v = .agg #[.int .i64 a0, .int .i64 a1, .int .i64 a2, .int .i64 a3, .int .i64 a4, .bool a5] ∧ (Lit.int .i64 a0).wf = true ∧ (Lit.int .i64 a1).wf = true ∧ (Lit.int .i64 a2).wf = true ∧ (Lit.int .i64 a3).wf = true ∧ (Lit.int .i64 a4).wf = true := by
  obtain ⟨⟨l⟩, rfl, hsz⟩ := okWide_struct Try.underlying37 hv
  obtain ⟨fuel, hf⟩ := h
  obtain ⟨a0, a1, a2, a3, a4, a5, e, wa0, wa1, wa2, wa3, wa4⟩ := openT37 hf
  have e : l = _ := e
  subst e
  exact ⟨a0, a1, a2, a3, a4, a5, rfl, wa0, wa1, wa2, wa3, wa4⟩
set_option maxRecDepth 100000 in
theorem lifted (os : Os) (started : os.Started) (H : Type) (enc : TypeId × Value → H) :
    ReturnsInHanded {} Try.checked os 10 .any (Rows.fnExactCycleOfPairSpec.pre6 enc Try.prog Try.f10 Rows.fnExactCycleOfPairRow.domain false) (Rows.fnExactCycleOfPairSpec.post enc Try.prog Try.f10 false true false false) := by
  refine returnsInHanded_of_change_sized (C := Try.checked) own started (by kernel_rfl) Try.func10
    (ChangeSpec.witness6 (enc := enc) (C := Try.checked) false ⟨#[], #[.agg #[.int .i64 0, .int .i64 0, .int .i64 0, .int .i64 0, .int .i64 0, .bool false], .int .i64 0, .int .i64 0, .int .i64 0], []⟩ 8 (by kernel_rfl) (by kernel_rfl) (by kernel_rfl) (by kernel_rfl)) ?_
  intro W base args ds gs before hval0 hW hcnd hsz0 _
  have hsz : (DataW.weightsEach Try.prog (Try.f10.params.toList ++ Rows.fnExactCycleOfPairSpec.plain.varTypes Try.prog) (ds ++ gs)).all (· ≤ reachBytes) = true := hsz0
  have hval : ∀ (j : Nat) t v, Try.f10.params[j]? = some t → args[j]? = some v → Value.okWide Try.prog W .any base t v := hval0
  have hW' := hW
  obtain ⟨p, q, hA0, hV, rfl, hfz, hnd⟩ := hW
  have hA : DataW.TrodAll enc Try.prog W 0 (fun _ => true) true Try.f10.params.toList args.toList ds p := hA0
  rw [Try.params10] at hA hval hsz
  obtain ⟨v0, vs0, d0, ds0, p0, q0, hargs, rfl, rfl, h0, r0⟩ := trodAll_cons hA
  obtain ⟨v1, vs1, d1, ds1, p1, q1, rfl, rfl, rfl, h1, r1⟩ := trodAll_cons r0
  obtain ⟨v2, vs2, d2, ds2, p2, q2, rfl, rfl, rfl, h2, r2⟩ := trodAll_cons r1
  obtain ⟨v3, vs3, d3, ds3, p3, q3, rfl, rfl, rfl, h3, r3⟩ := trodAll_cons r2
  obtain ⟨rfl, rfl, rfl⟩ := trodAll_nil r3
  obtain rfl : args = #[v0, v1, v2, v3] := by cases args; simp_all
  obtain ⟨rfl, rfl⟩ := trodVars_none hV
  have k0 := h0
  have lt0 : ∀ x ∈ p0, x.block < W.heap.size := by obtain ⟨m, hm⟩ := k0; exact DataW.trod_lt m _ _ _ hm
  obtain ⟨a0_0, a0_1, a0_2, a0_3, a0_4, a0_5, rfl, w0_0, w0_1, w0_2, w0_3, w0_4⟩ := openV37 (hval 0 37 v0 rfl rfl) h0
  obtain ⟨a1, rfl, rfl, rfl, w1⟩ := open_int Try.underlying3 (hval 1 3 v1 rfl rfl) h1
  obtain ⟨a2, rfl, rfl, rfl, w2⟩ := open_int Try.underlying3 (hval 2 3 v2 rfl rfl) h2
  obtain ⟨a3, rfl, rfl, rfl, w3⟩ := open_int Try.underlying3 (hval 3 3 v3 rfl rfl) h3
  clear hA0 hval0 hsz0 hsz
  refine (PFnExactCycleOfPair.laws_FnExactCycleOfPair.walk Pure.FnExactCycleOfPair a0_0 a0_1 a0_2 a0_3 a0_4 a0_5 a1 a2 a3 W w0_0 w0_1 w0_2 w0_3 w0_4 w1 w2 w3).mono fun e W' ⟨he, bel⟩ => ?_
  subst he
  exact ⟨_, rfl, _, _, _, [], _, [], hW', trodAll_mk1 (shut_bool Try.underlying4 _), (trodAll_cons_mk (Below.trod laidOut (by kernel_rfl) (of_decide_eq_true (by kernel_rfl)) k0 bel lt0) (trodAll_cons_mk (shut_int Try.underlying3 w1) (trodAll_cons_mk (shut_int Try.underlying3 w2) (trodAll_cons_mk (shut_int Try.underlying3 w3) trodAll_mk0)))), rfl, bel.frame _, fun h => by cases h⟩
theorem over : Rows.fnExactCycleOfPairRow.holds Try.pinned (OpenSpec.ofChange Rows.fnExactCycleOfPairSpec) :=
  OpenClaim.holds_of_wide 10 Try.f10 rfl rfl rfl rfl rfl rfl rfl ⟨rfl, rfl, rfl, rfl, rfl⟩ rfl rfl rfl rfl rfl (by kernel_rfl) Try.func10 (by kernel_rfl)
    (of_decide_eq_true (by kernel_rfl)) (by unfold Func.isWrapper; first | (rw [if_pos (by decide +kernel)]; kernel_rfl) | (rw [if_neg (by decide +kernel)]; exact ⟨rfl, rfl⟩))
    (fun os started H enc _ => lifted os started H enc)
theorem proved : Rows.FnExactCycleOfPairSaid := over
#print axioms proved
end Go.Proofs.Ytjknlfgphlopnaa.fnExactCycleOfPair
namespace Go.Proofs.Ytjknlfgphlopnaa
/-- The row, under a short name, for the claim. -/
theorem fnExactCycleOfPair_holds : Rows.FnExactCycleOfPairSaid := fnExactCycleOfPair.proved
end Go.Proofs.Ytjknlfgphlopnaa
