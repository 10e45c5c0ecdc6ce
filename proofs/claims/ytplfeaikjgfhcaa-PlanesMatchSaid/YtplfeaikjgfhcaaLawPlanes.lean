/-
  The law PlanesMatch of the given rows: at every input the call returns true and leaves its arguments as they were. Conditions: none.
-/
import Derived.Test.YtplfeaikjgfhcaaRows
import Derived.Test.YtplfeaikjgfhcaaOpen
import Derived.Test.YtplfeaikjgfhcaaC5
import Derived.WalkKit
import Derived.ProofKit
import Derived.OpenShut
import Derived.ShutString
import Derived.ChangeOld
import Derived.Below
namespace Go.Proofs.Ytplfeaikjgfhcaa
open Go Go.ChangeShapes Go.WideShapes Go.ChangeAt Go.RowKit
open Go.ChangeMaps (open_string shut_string)

theorem planesMatch_own : ownKnob Try.prog.godebug = none := by kernel_rfl
theorem planesMatch_laidOut : laidOutB Try.prog = true := by kernel_rfl
theorem planesMatch_lv26 : leaves Try.prog 9 26 = some [3, 3, 3, 3, 24] := by kernel_rfl
theorem planesMatch_lv23 : leaves Try.prog 9 23 = some [3, 3, 3, 3] := by kernel_rfl
theorem planesMatch_lv44 : leaves Try.prog 9 44 = some [24, 24, 24, 24] := by kernel_rfl
theorem planesMatch_co33 : Try.prog.cellsOf 33 = 1 := by kernel_rfl

set_option maxHeartbeats 4000000 in
set_option maxRecDepth 100000 in
theorem planesMatch_lifted (os : Os) (started : os.Started) (H : Type) (enc : TypeId × Value → H) :
    ReturnsInHanded {} Try.checked os 5 .any (Rows.planesMatchSpec.pre6 enc Try.prog Try.f5 Rows.planesMatchRow.domain false) (Rows.planesMatchSpec.post enc Try.prog Try.f5 false true false false) := by
  refine returnsInHanded_of_change (C := Try.checked) planesMatch_own started (by kernel_rfl) Try.func5
    (ChangeSpec.witness6 (enc := enc) (C := Try.checked) false ⟨#[], #[.agg #[.int .i64 0, .int .i64 0, .int .i64 0, .int .i64 0, .slice none 0 0], .int .i64 0, .agg #[.int .i64 0, .int .i64 0, .int .i64 0, .int .i64 0], .agg #[.slice none 0 0, .slice none 0 0, .slice none 0 0, .slice none 0 0]], []⟩ 8 (by kernel_rfl) (by kernel_rfl) (by kernel_rfl) (by kernel_rfl)) ?_
  intro W base args ds gs before hval0 hW hcnd _
  have hval : ∀ (j : Nat) t v, Try.f5.params[j]? = some t → args[j]? = some v → Value.okWide Try.prog W .any base t v := hval0
  have hW' := hW
  obtain ⟨p, q, hA0, hV, rfl, hfz, hnd⟩ := hW
  have hA : DataW.TrodAll enc Try.prog W 0 (fun _ => true) true Try.f5.params.toList args.toList ds p := hA0
  rw [Try.params5] at hA hval
  obtain ⟨v0, vs0, d0, ds0, p0, q0, hargs, rfl, rfl, h0, r0⟩ := trodAll_cons hA
  obtain ⟨v1, vs1, d1, ds1, p1, q1, rfl, rfl, rfl, h1, r1⟩ := trodAll_cons r0
  obtain ⟨v2, vs2, d2, ds2, p2, q2, rfl, rfl, rfl, h2, r2⟩ := trodAll_cons r1
  obtain ⟨v3, vs3, d3, ds3, p3, q3, rfl, rfl, rfl, h3, r3⟩ := trodAll_cons r2
  obtain ⟨rfl, rfl, rfl⟩ := trodAll_nil r3
  obtain rfl : args = #[v0, v1, v2, v3] := by cases args; simp_all
  obtain ⟨rfl, rfl⟩ := trodVars_none hV
  have k0 := h0
  have lt0 : ∀ x ∈ p0, x.block < W.heap.size := by obtain ⟨m, hm⟩ := k0; exact DataW.trod_lt m _ _ _ hm
  have k1 := h1
  have lt1 : ∀ x ∈ p1, x.block < W.heap.size := by obtain ⟨m, hm⟩ := k1; exact DataW.trod_lt m _ _ _ hm
  have k2 := h2
  have lt2 : ∀ x ∈ p2, x.block < W.heap.size := by obtain ⟨m, hm⟩ := k2; exact DataW.trod_lt m _ _ _ hm
  have k3 := h3
  have lt3 : ∀ x ∈ p3, x.block < W.heap.size := by obtain ⟨m, hm⟩ := k3; exact DataW.trod_lt m _ _ _ hm
  obtain ⟨cs0, rfl, a0⟩ := open_agg Try.underlying26 planesMatch_lv26 (hval 0 26 v0 rfl rfl) h0
  obtain ⟨c0_0, cs0_0, rfl, l0_0, a0_0⟩ := a0.cons_inv
  obtain ⟨c0_1, cs0_1, rfl, l0_1, a0_1⟩ := a0_0.cons_inv
  obtain ⟨c0_2, cs0_2, rfl, l0_2, a0_2⟩ := a0_1.cons_inv
  obtain ⟨c0_3, cs0_3, rfl, l0_3, a0_3⟩ := a0_2.cons_inv
  obtain ⟨c0_4, cs0_4, rfl, l0_4, a0_4⟩ := a0_3.cons_inv
  obtain rfl := a0_4.nil_inv
  obtain ⟨x, el0_0, l0_0_w⟩ := l0_0.int Try.underlying3
  cases el0_0
  obtain ⟨y, el0_1, l0_1_w⟩ := l0_1.int Try.underlying3
  cases el0_1
  obtain ⟨wi, el0_2, l0_2_w⟩ := l0_2.int Try.underlying3
  cases el0_2
  obtain ⟨he, el0_3, l0_3_w⟩ := l0_3.int Try.underlying3
  cases el0_3
  obtain ⟨xs_A, xs_n, xs_c, xs, el0_4, xs_m, xs_l, xs_f, xs_b⟩ := l0_4.floats Try.underlying24 Try.underlying33 planesMatch_co33
  cases el0_4
  have hc1 : v1.cells.toList = [v1] := by obtain ⟨_, rfl⟩ := okWide_int Try.underlying3 (hval 1 3 v1 rfl rfl); rfl
  have l1 := leaf_of h1 hc1
  obtain ⟨ch, el1, l1_w⟩ := l1.int Try.underlying3
  cases el1
  obtain ⟨cs2, rfl, a2⟩ := open_agg Try.underlying23 planesMatch_lv23 (hval 2 23 v2 rfl rfl) h2
  obtain ⟨c2_0, cs2_0, rfl, l2_0, a2_0⟩ := a2.cons_inv
  obtain ⟨c2_1, cs2_1, rfl, l2_1, a2_1⟩ := a2_0.cons_inv
  obtain ⟨c2_2, cs2_2, rfl, l2_2, a2_2⟩ := a2_1.cons_inv
  obtain ⟨c2_3, cs2_3, rfl, l2_3, a2_3⟩ := a2_2.cons_inv
  obtain rfl := a2_3.nil_inv
  obtain ⟨rx, el2_0, l2_0_w⟩ := l2_0.int Try.underlying3
  cases el2_0
  obtain ⟨ry, el2_1, l2_1_w⟩ := l2_1.int Try.underlying3
  cases el2_1
  obtain ⟨rw_, el2_2, l2_2_w⟩ := l2_2.int Try.underlying3
  cases el2_2
  obtain ⟨rh, el2_3, l2_3_w⟩ := l2_3.int Try.underlying3
  cases el2_3
  obtain ⟨cs3, rfl, a3⟩ := open_arr Try.underlying44 planesMatch_lv44 (hval 3 44 v3 rfl rfl) h3
  obtain ⟨c3_0, cs3_0, rfl, l3_0, a3_0⟩ := a3.cons_inv
  obtain ⟨c3_1, cs3_1, rfl, l3_1, a3_1⟩ := a3_0.cons_inv
  obtain ⟨c3_2, cs3_2, rfl, l3_2, a3_2⟩ := a3_1.cons_inv
  obtain ⟨c3_3, cs3_3, rfl, l3_3, a3_3⟩ := a3_2.cons_inv
  obtain rfl := a3_3.nil_inv
  obtain ⟨za_A, za_n, za_c, za, el3_0, za_m, za_l, za_f, za_b⟩ := l3_0.floats Try.underlying24 Try.underlying33 planesMatch_co33
  cases el3_0
  obtain ⟨zb_A, zb_n, zb_c, zb, el3_1, zb_m, zb_l, zb_f, zb_b⟩ := l3_1.floats Try.underlying24 Try.underlying33 planesMatch_co33
  cases el3_1
  obtain ⟨zc_A, zc_n, zc_c, zc, el3_2, zc_m, zc_l, zc_f, zc_b⟩ := l3_2.floats Try.underlying24 Try.underlying33 planesMatch_co33
  cases el3_2
  obtain ⟨zd_A, zd_n, zd_c, zd, el3_3, zd_m, zd_l, zd_f, zd_b⟩ := l3_3.floats Try.underlying24 Try.underlying33 planesMatch_co33
  cases el3_3
  clear hA0 hval0
  refine Calls.mono (planesMatch x y wi he xs_A xs_n xs_c xs ch rx ry rw_ rh (f4 za_A zb_A zc_A zd_A) (f4 za_n zb_n zc_n zd_n) (f4 za_c zb_c zc_c zd_c) (f4 za zb zc zd) W xs_l xs_f xs_m (bounds_i64 l2_0_w) (all4 za_l zb_l zc_l zd_l) (all4 za_f zb_f zc_f zd_f)) fun e W' hp => ?_
  obtain ⟨v, HL, rfl, own, rfl, rfl⟩ := hp
  have bel := own.below
  exact ⟨_, rfl, _, _, _, [], _, [], hW', trodAll_mk1 (shut_bool Try.underlying4 _), (trodAll_cons_mk (Below.trod planesMatch_laidOut (by kernel_rfl) (of_decide_eq_true (by kernel_rfl)) k0 bel lt0) (trodAll_cons_mk (Below.trod planesMatch_laidOut (by kernel_rfl) (of_decide_eq_true (by kernel_rfl)) k1 bel lt1) (trodAll_cons_mk (Below.trod planesMatch_laidOut (by kernel_rfl) (of_decide_eq_true (by kernel_rfl)) k2 bel lt2) (trodAll_cons_mk (Below.trod planesMatch_laidOut (by kernel_rfl) (of_decide_eq_true (by kernel_rfl)) k3 bel lt3) trodAll_mk0)))), rfl, bel.frame _, fun h => by cases h⟩

theorem planesMatch_over : Rows.planesMatchRow.holds Try.pinned (OpenSpec.ofChange Rows.planesMatchSpec) :=
  OpenClaim.holds_of_wide 5 Try.f5 rfl rfl rfl rfl rfl rfl rfl ⟨rfl, rfl, rfl, rfl, rfl⟩ rfl rfl rfl rfl rfl (by kernel_rfl) Try.func5 (by kernel_rfl)
    (of_decide_eq_true (by kernel_rfl)) (by unfold Func.isWrapper; first | (rw [if_pos (by decide +kernel)]; kernel_rfl) | (rw [if_neg (by decide +kernel)]; exact ⟨rfl, rfl⟩))
    (fun os started H enc _ => planesMatch_lifted os started H enc)

/-- THE STATEMENT. -/
theorem planes_holds : Rows.PlanesMatchSaid := planesMatch_over
#print axioms planes_holds
end Go.Proofs.Ytplfeaikjgfhcaa
