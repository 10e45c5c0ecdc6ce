/-
  The law FramesAreCut of the given rows: at every input the call returns true and leaves its arguments as they were. Conditions: none.
-/
import Derived.Test.YtplfeaikjgfhcaaRows
import Derived.Test.YtplfeaikjgfhcaaOpen
import Derived.Test.YtplfeaikjgfhcaaC13
import Derived.WalkKit
import Derived.ProofKit
import Derived.OpenShut
import Derived.ShutString
import Derived.ChangeOld
import Derived.Below
namespace Go.Proofs.Ytplfeaikjgfhcaa
open Go Go.ChangeShapes Go.WideShapes Go.ChangeAt Go.RowKit
open Go.ChangeMaps (open_string shut_string)

theorem framesAreCut_own : ownKnob Try.prog.godebug = none := by kernel_rfl
theorem framesAreCut_laidOut : laidOutB Try.prog = true := by kernel_rfl
theorem framesAreCut_lv26 : leaves Try.prog 9 26 = some [3, 3, 3, 3, 24] := by kernel_rfl
theorem framesAreCut_lv23 : leaves Try.prog 9 23 = some [3, 3, 3, 3] := by kernel_rfl
theorem framesAreCut_lv35 : leaves Try.prog 9 35 = some [33, 33, 33, 33] := by kernel_rfl
theorem framesAreCut_co33 : Try.prog.cellsOf 33 = 1 := by kernel_rfl

set_option maxHeartbeats 4000000 in
set_option maxRecDepth 100000 in
theorem framesAreCut_lifted (os : Os) (started : os.Started) (H : Type) (enc : TypeId × Value → H) :
    ReturnsInHanded {} Try.checked os 17 .any (Rows.framesAreCutSpec.pre6 enc Try.prog Try.f17 Rows.framesAreCutRow.domain false) (Rows.framesAreCutSpec.post enc Try.prog Try.f17 false true false false) := by
  refine returnsInHanded_of_change (C := Try.checked) framesAreCut_own started (by kernel_rfl) Try.func17
    (ChangeSpec.witness6 (enc := enc) (C := Try.checked) false ⟨#[], #[.agg #[.int .i64 0, .int .i64 0, .int .i64 0, .int .i64 0, .slice none 0 0], .agg #[.int .i64 0, .int .i64 0, .int .i64 0, .int .i64 0, .slice none 0 0], .agg #[.int .i64 0, .int .i64 0, .int .i64 0, .int .i64 0], .int .i64 0, .int .i64 0, .agg #[.float .f32 0, .float .f32 0, .float .f32 0, .float .f32 0]], []⟩ 8 (by kernel_rfl) (by kernel_rfl) (by kernel_rfl) (by kernel_rfl)) ?_
  intro W base args ds gs before hval0 hW hcnd _
  have hval : ∀ (j : Nat) t v, Try.f17.params[j]? = some t → args[j]? = some v → Value.okWide Try.prog W .any base t v := hval0
  have hW' := hW
  obtain ⟨p, q, hA0, hV, rfl, hfz, hnd⟩ := hW
  have hA : DataW.TrodAll enc Try.prog W 0 (fun _ => true) true Try.f17.params.toList args.toList ds p := hA0
  rw [Try.params17] at hA hval
  obtain ⟨v0, vs0, d0, ds0, p0, q0, hargs, rfl, rfl, h0, r0⟩ := trodAll_cons hA
  obtain ⟨v1, vs1, d1, ds1, p1, q1, rfl, rfl, rfl, h1, r1⟩ := trodAll_cons r0
  obtain ⟨v2, vs2, d2, ds2, p2, q2, rfl, rfl, rfl, h2, r2⟩ := trodAll_cons r1
  obtain ⟨v3, vs3, d3, ds3, p3, q3, rfl, rfl, rfl, h3, r3⟩ := trodAll_cons r2
  obtain ⟨v4, vs4, d4, ds4, p4, q4, rfl, rfl, rfl, h4, r4⟩ := trodAll_cons r3
  obtain ⟨v5, vs5, d5, ds5, p5, q5, rfl, rfl, rfl, h5, r5⟩ := trodAll_cons r4
  obtain ⟨rfl, rfl, rfl⟩ := trodAll_nil r5
  obtain rfl : args = #[v0, v1, v2, v3, v4, v5] := by cases args; simp_all
  obtain ⟨rfl, rfl⟩ := trodVars_none hV
  have k0 := h0
  have lt0 : ∀ x ∈ p0, x.block < W.heap.size := by obtain ⟨m, hm⟩ := k0; exact DataW.trod_lt m _ _ _ hm
  have k1 := h1
  have lt1 : ∀ x ∈ p1, x.block < W.heap.size := by obtain ⟨m, hm⟩ := k1; exact DataW.trod_lt m _ _ _ hm
  have k2 := h2
  have lt2 : ∀ x ∈ p2, x.block < W.heap.size := by obtain ⟨m, hm⟩ := k2; exact DataW.trod_lt m _ _ _ hm
  have k3 := h3
  have lt3 : ∀ x ∈ p3, x.block < W.heap.size := by obtain ⟨m, hm⟩ := k3; exact DataW.trod_lt m _ _ _ hm
  have k4 := h4
  have lt4 : ∀ x ∈ p4, x.block < W.heap.size := by obtain ⟨m, hm⟩ := k4; exact DataW.trod_lt m _ _ _ hm
  have k5 := h5
  have lt5 : ∀ x ∈ p5, x.block < W.heap.size := by obtain ⟨m, hm⟩ := k5; exact DataW.trod_lt m _ _ _ hm
  obtain ⟨cs0, rfl, a0⟩ := open_agg Try.underlying26 framesAreCut_lv26 (hval 0 26 v0 rfl rfl) h0
  obtain ⟨c0_0, cs0_0, rfl, l0_0, a0_0⟩ := a0.cons_inv
  obtain ⟨c0_1, cs0_1, rfl, l0_1, a0_1⟩ := a0_0.cons_inv
  obtain ⟨c0_2, cs0_2, rfl, l0_2, a0_2⟩ := a0_1.cons_inv
  obtain ⟨c0_3, cs0_3, rfl, l0_3, a0_3⟩ := a0_2.cons_inv
  obtain ⟨c0_4, cs0_4, rfl, l0_4, a0_4⟩ := a0_3.cons_inv
  obtain rfl := a0_4.nil_inv
  obtain ⟨fx, el0_0, l0_0_w⟩ := l0_0.int Try.underlying3
  cases el0_0
  obtain ⟨fy, el0_1, l0_1_w⟩ := l0_1.int Try.underlying3
  cases el0_1
  obtain ⟨fw, el0_2, l0_2_w⟩ := l0_2.int Try.underlying3
  cases el0_2
  obtain ⟨fh, el0_3, l0_3_w⟩ := l0_3.int Try.underlying3
  cases el0_3
  obtain ⟨xs_A, xs_n, xs_c, xs, el0_4, xs_m, xs_l, xs_f, xs_b⟩ := l0_4.floats Try.underlying24 Try.underlying33 framesAreCut_co33
  cases el0_4
  obtain ⟨cs1, rfl, a1⟩ := open_agg Try.underlying26 framesAreCut_lv26 (hval 1 26 v1 rfl rfl) h1
  obtain ⟨c1_0, cs1_0, rfl, l1_0, a1_0⟩ := a1.cons_inv
  obtain ⟨c1_1, cs1_1, rfl, l1_1, a1_1⟩ := a1_0.cons_inv
  obtain ⟨c1_2, cs1_2, rfl, l1_2, a1_2⟩ := a1_1.cons_inv
  obtain ⟨c1_3, cs1_3, rfl, l1_3, a1_3⟩ := a1_2.cons_inv
  obtain ⟨c1_4, cs1_4, rfl, l1_4, a1_4⟩ := a1_3.cons_inv
  obtain rfl := a1_4.nil_inv
  obtain ⟨ex, el1_0, l1_0_w⟩ := l1_0.int Try.underlying3
  cases el1_0
  obtain ⟨ey, el1_1, l1_1_w⟩ := l1_1.int Try.underlying3
  cases el1_1
  obtain ⟨ew, el1_2, l1_2_w⟩ := l1_2.int Try.underlying3
  cases el1_2
  obtain ⟨eh, el1_3, l1_3_w⟩ := l1_3.int Try.underlying3
  cases el1_3
  obtain ⟨ys_A, ys_n, ys_c, ys, el1_4, ys_m, ys_l, ys_f, ys_b⟩ := l1_4.floats Try.underlying24 Try.underlying33 framesAreCut_co33
  cases el1_4
  obtain ⟨cs2, rfl, a2⟩ := open_agg Try.underlying23 framesAreCut_lv23 (hval 2 23 v2 rfl rfl) h2
  obtain ⟨c2_0, cs2_0, rfl, l2_0, a2_0⟩ := a2.cons_inv
  obtain ⟨c2_1, cs2_1, rfl, l2_1, a2_1⟩ := a2_0.cons_inv
  obtain ⟨c2_2, cs2_2, rfl, l2_2, a2_2⟩ := a2_1.cons_inv
  obtain ⟨c2_3, cs2_3, rfl, l2_3, a2_3⟩ := a2_2.cons_inv
  obtain rfl := a2_3.nil_inv
  obtain ⟨rx, el2_0, l2_0_w⟩ := l2_0.int Try.underlying3
  cases el2_0
  obtain ⟨ry, el2_1, l2_1_w⟩ := l2_1.int Try.underlying3
  cases el2_1
  obtain ⟨rw_, el2_2, l2_2_w⟩ := l2_2.int Try.underlying3
  cases el2_2
  obtain ⟨rh, el2_3, l2_3_w⟩ := l2_3.int Try.underlying3
  cases el2_3
  have hc3 : v3.cells.toList = [v3] := by obtain ⟨_, rfl⟩ := okWide_int Try.underlying3 (hval 3 3 v3 rfl rfl); rfl
  have l3 := leaf_of h3 hc3
  obtain ⟨x, el3, l3_w⟩ := l3.int Try.underlying3
  cases el3
  have hc4 : v4.cells.toList = [v4] := by obtain ⟨_, rfl⟩ := okWide_int Try.underlying3 (hval 4 3 v4 rfl rfl); rfl
  have l4 := leaf_of h4 hc4
  obtain ⟨y, el4, l4_w⟩ := l4.int Try.underlying3
  cases el4
  obtain ⟨cs5, rfl, a5⟩ := open_arr Try.underlying35 framesAreCut_lv35 (hval 5 35 v5 rfl rfl) h5
  obtain ⟨c5_0, cs5_0, rfl, l5_0, a5_0⟩ := a5.cons_inv
  obtain ⟨c5_1, cs5_1, rfl, l5_1, a5_1⟩ := a5_0.cons_inv
  obtain ⟨c5_2, cs5_2, rfl, l5_2, a5_2⟩ := a5_1.cons_inv
  obtain ⟨c5_3, cs5_3, rfl, l5_3, a5_3⟩ := a5_2.cons_inv
  obtain rfl := a5_3.nil_inv
  obtain ⟨pa, el5_0, l5_0_w⟩ := l5_0.float Try.underlying33
  cases el5_0
  obtain ⟨pb, el5_1, l5_1_w⟩ := l5_1.float Try.underlying33
  cases el5_1
  obtain ⟨pc, el5_2, l5_2_w⟩ := l5_2.float Try.underlying33
  cases el5_2
  obtain ⟨pd, el5_3, l5_3_w⟩ := l5_3.float Try.underlying33
  cases el5_3
  clear hA0 hval0
  refine Calls.mono (framesAreCut fx fy fw fh ex ey ew eh xs_A ys_A xs_n xs_c ys_n ys_c xs ys rx ry rw_ rh x y (f4 pa pb pc pd) W xs_l xs_f xs_m ys_l ys_f ys_m (bounds_i64 l2_0_w)) fun e W' hp => ?_
  obtain ⟨v, HL, rfl, own, rfl, rfl⟩ := hp
  have bel := own.below
  exact ⟨_, rfl, _, _, _, [], _, [], hW', trodAll_mk1 (shut_bool Try.underlying4 _), (trodAll_cons_mk (Below.trod framesAreCut_laidOut (by kernel_rfl) (of_decide_eq_true (by kernel_rfl)) k0 bel lt0) (trodAll_cons_mk (Below.trod framesAreCut_laidOut (by kernel_rfl) (of_decide_eq_true (by kernel_rfl)) k1 bel lt1) (trodAll_cons_mk (Below.trod framesAreCut_laidOut (by kernel_rfl) (of_decide_eq_true (by kernel_rfl)) k2 bel lt2) (trodAll_cons_mk (Below.trod framesAreCut_laidOut (by kernel_rfl) (of_decide_eq_true (by kernel_rfl)) k3 bel lt3) (trodAll_cons_mk (Below.trod framesAreCut_laidOut (by kernel_rfl) (of_decide_eq_true (by kernel_rfl)) k4 bel lt4) (trodAll_cons_mk (Below.trod framesAreCut_laidOut (by kernel_rfl) (of_decide_eq_true (by kernel_rfl)) k5 bel lt5) trodAll_mk0)))))), rfl, bel.frame _, fun h => by cases h⟩

theorem framesAreCut_over : Rows.framesAreCutRow.holds Try.pinned (OpenSpec.ofChange Rows.framesAreCutSpec) :=
  OpenClaim.holds_of_wide 17 Try.f17 rfl rfl rfl rfl rfl rfl rfl ⟨rfl, rfl, rfl, rfl, rfl⟩ rfl rfl rfl rfl rfl (by kernel_rfl) Try.func17 (by kernel_rfl)
    (of_decide_eq_true (by kernel_rfl)) (by unfold Func.isWrapper; first | (rw [if_pos (by decide +kernel)]; kernel_rfl) | (rw [if_neg (by decide +kernel)]; exact ⟨rfl, rfl⟩))
    (fun os started H enc _ => framesAreCut_lifted os started H enc)

/-- THE STATEMENT. -/
theorem cut_holds : Rows.FramesAreCutSaid := framesAreCut_over
#print axioms cut_holds
end Go.Proofs.Ytplfeaikjgfhcaa
