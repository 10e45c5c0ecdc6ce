/-
  The law RegionsMatch of the given rows: at every input the call returns true and leaves its arguments as they were. Conditions: none.
-/
import Derived.Test.YtplfeaikjgfhcaaRows
import Derived.Test.YtplfeaikjgfhcaaOpen
import Derived.Test.YtplfeaikjgfhcaaC11
import Derived.WalkKit
import Derived.ProofKit
import Derived.OpenShut
import Derived.ShutString
import Derived.ChangeOld
import Derived.Below
namespace Go.Proofs.Ytplfeaikjgfhcaa
open Go Go.ChangeShapes Go.WideShapes Go.ChangeAt Go.RowKit
open Go.ChangeMaps (open_string shut_string)

theorem regionsMatch_own : ownKnob Try.prog.godebug = none := by kernel_rfl
theorem regionsMatch_laidOut : laidOutB Try.prog = true := by kernel_rfl
theorem regionsMatch_lv23 : leaves Try.prog 9 23 = some [3, 3, 3, 3] := by kernel_rfl

set_option maxHeartbeats 4000000 in
set_option maxRecDepth 100000 in
theorem regionsMatch_lifted (os : Os) (started : os.Started) (H : Type) (enc : TypeId × Value → H) :
    ReturnsInHanded {} Try.checked os 6 .any (Rows.regionsMatchSpec.pre6 enc Try.prog Try.f6 Rows.regionsMatchRow.domain false) (Rows.regionsMatchSpec.post enc Try.prog Try.f6 false true false false) := by
  refine returnsInHanded_of_change (C := Try.checked) regionsMatch_own started (by kernel_rfl) Try.func6
    (ChangeSpec.witness6 (enc := enc) (C := Try.checked) false ⟨#[], #[.agg #[.int .i64 0, .int .i64 0, .int .i64 0, .int .i64 0], .agg #[.int .i64 0, .int .i64 0, .int .i64 0, .int .i64 0], .int .i64 0, .int .i64 0], []⟩ 8 (by kernel_rfl) (by kernel_rfl) (by kernel_rfl) (by kernel_rfl)) ?_
  intro W base args ds gs before hval0 hW hcnd _
  have hval : ∀ (j : Nat) t v, Try.f6.params[j]? = some t → args[j]? = some v → Value.okWide Try.prog W .any base t v := hval0
  have hW' := hW
  obtain ⟨p, q, hA0, hV, rfl, hfz, hnd⟩ := hW
  have hA : DataW.TrodAll enc Try.prog W 0 (fun _ => true) true Try.f6.params.toList args.toList ds p := hA0
  rw [Try.params6] at hA hval
  obtain ⟨v0, vs0, d0, ds0, p0, q0, hargs, rfl, rfl, h0, r0⟩ := trodAll_cons hA
  obtain ⟨v1, vs1, d1, ds1, p1, q1, rfl, rfl, rfl, h1, r1⟩ := trodAll_cons r0
  obtain ⟨v2, vs2, d2, ds2, p2, q2, rfl, rfl, rfl, h2, r2⟩ := trodAll_cons r1
  obtain ⟨v3, vs3, d3, ds3, p3, q3, rfl, rfl, rfl, h3, r3⟩ := trodAll_cons r2
  obtain ⟨rfl, rfl, rfl⟩ := trodAll_nil r3
  obtain rfl : args = #[v0, v1, v2, v3] := by cases args; simp_all
  obtain ⟨rfl, rfl⟩ := trodVars_none hV
  have k0 := h0
  have lt0 : ∀ x ∈ p0, x.block < W.heap.size := by obtain ⟨m, hm⟩ := k0; exact DataW.trod_lt m _ _ _ hm
  have k1 := h1
  have lt1 : ∀ x ∈ p1, x.block < W.heap.size := by obtain ⟨m, hm⟩ := k1; exact DataW.trod_lt m _ _ _ hm
  have k2 := h2
  have lt2 : ∀ x ∈ p2, x.block < W.heap.size := by obtain ⟨m, hm⟩ := k2; exact DataW.trod_lt m _ _ _ hm
  have k3 := h3
  have lt3 : ∀ x ∈ p3, x.block < W.heap.size := by obtain ⟨m, hm⟩ := k3; exact DataW.trod_lt m _ _ _ hm
  obtain ⟨cs0, rfl, a0⟩ := open_agg Try.underlying23 regionsMatch_lv23 (hval 0 23 v0 rfl rfl) h0
  obtain ⟨c0_0, cs0_0, rfl, l0_0, a0_0⟩ := a0.cons_inv
  obtain ⟨c0_1, cs0_1, rfl, l0_1, a0_1⟩ := a0_0.cons_inv
  obtain ⟨c0_2, cs0_2, rfl, l0_2, a0_2⟩ := a0_1.cons_inv
  obtain ⟨c0_3, cs0_3, rfl, l0_3, a0_3⟩ := a0_2.cons_inv
  obtain rfl := a0_3.nil_inv
  obtain ⟨ax, el0_0, l0_0_w⟩ := l0_0.int Try.underlying3
  cases el0_0
  obtain ⟨ay, el0_1, l0_1_w⟩ := l0_1.int Try.underlying3
  cases el0_1
  obtain ⟨aw, el0_2, l0_2_w⟩ := l0_2.int Try.underlying3
  cases el0_2
  obtain ⟨ah, el0_3, l0_3_w⟩ := l0_3.int Try.underlying3
  cases el0_3
  obtain ⟨cs1, rfl, a1⟩ := open_agg Try.underlying23 regionsMatch_lv23 (hval 1 23 v1 rfl rfl) h1
  obtain ⟨c1_0, cs1_0, rfl, l1_0, a1_0⟩ := a1.cons_inv
  obtain ⟨c1_1, cs1_1, rfl, l1_1, a1_1⟩ := a1_0.cons_inv
  obtain ⟨c1_2, cs1_2, rfl, l1_2, a1_2⟩ := a1_1.cons_inv
  obtain ⟨c1_3, cs1_3, rfl, l1_3, a1_3⟩ := a1_2.cons_inv
  obtain rfl := a1_3.nil_inv
  obtain ⟨bx, el1_0, l1_0_w⟩ := l1_0.int Try.underlying3
  cases el1_0
  obtain ⟨bz, el1_1, l1_1_w⟩ := l1_1.int Try.underlying3
  cases el1_1
  obtain ⟨bw, el1_2, l1_2_w⟩ := l1_2.int Try.underlying3
  cases el1_2
  obtain ⟨bh, el1_3, l1_3_w⟩ := l1_3.int Try.underlying3
  cases el1_3
  have hc2 : v2.cells.toList = [v2] := by obtain ⟨_, rfl⟩ := okWide_int Try.underlying3 (hval 2 3 v2 rfl rfl); rfl
  have l2 := leaf_of h2 hc2
  obtain ⟨n, el2, l2_w⟩ := l2.int Try.underlying3
  cases el2
  have hc3 : v3.cells.toList = [v3] := by obtain ⟨_, rfl⟩ := okWide_int Try.underlying3 (hval 3 3 v3 rfl rfl); rfl
  have l3 := leaf_of h3 hc3
  obtain ⟨side, el3, l3_w⟩ := l3.int Try.underlying3
  cases el3
  clear hA0 hval0
  refine Calls.mono (regionsMatch ax ay aw ah bx bz bw bh n side W (bounds_i64 l0_0_w) (bounds_i64 l1_0_w)) fun e W' hp => ?_
  obtain ⟨v, HL, rfl, own, rfl, rfl⟩ := hp
  have bel := own.below
  exact ⟨_, rfl, _, _, _, [], _, [], hW', trodAll_mk1 (shut_bool Try.underlying4 _), (trodAll_cons_mk (Below.trod regionsMatch_laidOut (by kernel_rfl) (of_decide_eq_true (by kernel_rfl)) k0 bel lt0) (trodAll_cons_mk (Below.trod regionsMatch_laidOut (by kernel_rfl) (of_decide_eq_true (by kernel_rfl)) k1 bel lt1) (trodAll_cons_mk (Below.trod regionsMatch_laidOut (by kernel_rfl) (of_decide_eq_true (by kernel_rfl)) k2 bel lt2) (trodAll_cons_mk (Below.trod regionsMatch_laidOut (by kernel_rfl) (of_decide_eq_true (by kernel_rfl)) k3 bel lt3) trodAll_mk0)))), rfl, bel.frame _, fun h => by cases h⟩

theorem regionsMatch_over : Rows.regionsMatchRow.holds Try.pinned (OpenSpec.ofChange Rows.regionsMatchSpec) :=
  OpenClaim.holds_of_wide 6 Try.f6 rfl rfl rfl rfl rfl rfl rfl ⟨rfl, rfl, rfl, rfl, rfl⟩ rfl rfl rfl rfl rfl (by kernel_rfl) Try.func6 (by kernel_rfl)
    (of_decide_eq_true (by kernel_rfl)) (by unfold Func.isWrapper; first | (rw [if_pos (by decide +kernel)]; kernel_rfl) | (rw [if_neg (by decide +kernel)]; exact ⟨rfl, rfl⟩))
    (fun os started H enc _ => regionsMatch_lifted os started H enc)

/-- THE STATEMENT. -/
theorem regions_holds : Rows.RegionsMatchSaid := regionsMatch_over
#print axioms regions_holds
end Go.Proofs.Ytplfeaikjgfhcaa
