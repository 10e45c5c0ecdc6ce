/-
  The law ColoursMatch of the given rows: at every input the call returns true and leaves its arguments as they were. Conditions: none.
-/
import Derived.Test.YtplfeaikjgfhcaaRows
import Derived.Test.YtplfeaikjgfhcaaOpen
import Derived.Test.YtplfeaikjgfhcaaC15
import Derived.Test.YtplfeaikjgfhcaaOpen2
import Derived.WalkKit
import Derived.ProofKit
import Derived.OpenShut
import Derived.ShutString
import Derived.ChangeOld
import Derived.Below
namespace Go.Proofs.Ytplfeaikjgfhcaa
open Go Go.ChangeShapes Go.WideShapes Go.ChangeAt Go.RowKit
open Go.ChangeMaps (open_string shut_string)

theorem coloursMatch_own : ownKnob Try.prog.godebug = none := by kernel_rfl
theorem coloursMatch_laidOut : laidOutB Try.prog = true := by kernel_rfl
theorem coloursMatch_lv26 : leaves Try.prog 9 26 = some [3, 3, 3, 3, 24] := by kernel_rfl
theorem coloursMatch_lv96 : leaves Try.prog 9 96 = some [33, 33, 33] := by kernel_rfl
theorem coloursMatch_co33 : Try.prog.cellsOf 33 = 1 := by kernel_rfl
theorem coloursMatch_lv163 : leaves Try.prog 9 163 = some [33, 33, 33, 33, 33] := by kernel_rfl
theorem coloursMatch_co163 : Try.prog.cellsOf 163 = 5 := by kernel_rfl

set_option maxHeartbeats 4000000 in
set_option maxRecDepth 100000 in
theorem coloursMatch_lifted (os : Os) (started : os.Started) (H : Type) (enc : TypeId × Value → H) :
    ReturnsInHanded {} Try.checked os 13 .any (Rows.coloursMatchSpec.pre6 enc Try.prog Try.f13 Rows.coloursMatchRow.domain false) (Rows.coloursMatchSpec.post enc Try.prog Try.f13 false true false false) := by
  refine returnsInHanded_of_change (C := Try.checked) coloursMatch_own started (by kernel_rfl) Try.func13
    (ChangeSpec.witness6 (enc := enc) (C := Try.checked) false ⟨#[], #[.agg #[.int .i64 0, .int .i64 0, .int .i64 0, .int .i64 0, .slice none 0 0], .agg #[.float .f32 0, .float .f32 0, .float .f32 0], .slice none 0 0, .float .f32 0, .int .i64 0], []⟩ 8 (by kernel_rfl) (by kernel_rfl) (by kernel_rfl) (by kernel_rfl)) ?_
  intro W base args ds gs before hval0 hW hcnd _
  have hval : ∀ (j : Nat) t v, Try.f13.params[j]? = some t → args[j]? = some v → Value.okWide Try.prog W .any base t v := hval0
  have hW' := hW
  obtain ⟨p, q, hA0, hV, rfl, hfz, hnd⟩ := hW
  have hA : DataW.TrodAll enc Try.prog W 0 (fun _ => true) true Try.f13.params.toList args.toList ds p := hA0
  rw [Try.params13] at hA hval
  obtain ⟨v0, vs0, d0, ds0, p0, q0, hargs, rfl, rfl, h0, r0⟩ := trodAll_cons hA
  obtain ⟨v1, vs1, d1, ds1, p1, q1, rfl, rfl, rfl, h1, r1⟩ := trodAll_cons r0
  obtain ⟨v2, vs2, d2, ds2, p2, q2, rfl, rfl, rfl, h2, r2⟩ := trodAll_cons r1
  obtain ⟨v3, vs3, d3, ds3, p3, q3, rfl, rfl, rfl, h3, r3⟩ := trodAll_cons r2
  obtain ⟨v4, vs4, d4, ds4, p4, q4, rfl, rfl, rfl, h4, r4⟩ := trodAll_cons r3
  obtain ⟨rfl, rfl, rfl⟩ := trodAll_nil r4
  obtain rfl : args = #[v0, v1, v2, v3, v4] := by cases args; simp_all
  obtain ⟨rfl, rfl⟩ := trodVars_none hV
  have k0 := h0
  have lt0 : ∀ x ∈ p0, x.block < W.heap.size := by obtain ⟨m, hm⟩ := k0; exact DataW.trod_lt m _ _ _ hm
  have k1 := h1
  have lt1 : ∀ x ∈ p1, x.block < W.heap.size := by obtain ⟨m, hm⟩ := k1; exact DataW.trod_lt m _ _ _ hm
  have k2 := h2
  have lt2 : ∀ x ∈ p2, x.block < W.heap.size := by obtain ⟨m, hm⟩ := k2; exact DataW.trod_lt m _ _ _ hm
  have k3 := h3
  have lt3 : ∀ x ∈ p3, x.block < W.heap.size := by obtain ⟨m, hm⟩ := k3; exact DataW.trod_lt m _ _ _ hm
  have k4 := h4
  have lt4 : ∀ x ∈ p4, x.block < W.heap.size := by obtain ⟨m, hm⟩ := k4; exact DataW.trod_lt m _ _ _ hm
  obtain ⟨cs0, rfl, a0⟩ := open_agg Try.underlying26 coloursMatch_lv26 (hval 0 26 v0 rfl rfl) h0
  obtain ⟨c0_0, cs0_0, rfl, l0_0, a0_0⟩ := a0.cons_inv
  obtain ⟨c0_1, cs0_1, rfl, l0_1, a0_1⟩ := a0_0.cons_inv
  obtain ⟨c0_2, cs0_2, rfl, l0_2, a0_2⟩ := a0_1.cons_inv
  obtain ⟨c0_3, cs0_3, rfl, l0_3, a0_3⟩ := a0_2.cons_inv
  obtain ⟨c0_4, cs0_4, rfl, l0_4, a0_4⟩ := a0_3.cons_inv
  obtain rfl := a0_4.nil_inv
  obtain ⟨x, el0_0, l0_0_w⟩ := l0_0.int Try.underlying3
  cases el0_0
  obtain ⟨y, el0_1, l0_1_w⟩ := l0_1.int Try.underlying3
  cases el0_1
  obtain ⟨wi, el0_2, l0_2_w⟩ := l0_2.int Try.underlying3
  cases el0_2
  obtain ⟨he, el0_3, l0_3_w⟩ := l0_3.int Try.underlying3
  cases el0_3
  obtain ⟨xs_A, xs_n, xs_c, xs, el0_4, xs_m, xs_l, xs_f, xs_b⟩ := l0_4.floats Try.underlying24 Try.underlying33 coloursMatch_co33
  cases el0_4
  obtain ⟨cs1, rfl, a1⟩ := open_arr Try.underlying96 coloursMatch_lv96 (hval 1 96 v1 rfl rfl) h1
  obtain ⟨c1_0, cs1_0, rfl, l1_0, a1_0⟩ := a1.cons_inv
  obtain ⟨c1_1, cs1_1, rfl, l1_1, a1_1⟩ := a1_0.cons_inv
  obtain ⟨c1_2, cs1_2, rfl, l1_2, a1_2⟩ := a1_1.cons_inv
  obtain rfl := a1_2.nil_inv
  obtain ⟨wa, el1_0, l1_0_w⟩ := l1_0.float Try.underlying33
  cases el1_0
  obtain ⟨wb, el1_1, l1_1_w⟩ := l1_1.float Try.underlying33
  cases el1_1
  obtain ⟨wc, el1_2, l1_2_w⟩ := l1_2.float Try.underlying33
  cases el1_2
  have hc2 : v2.cells.toList = [v2] := by obtain ⟨_, _, _, rfl⟩ := okWide_slice Try.underlying97 (hval 2 97 v2 rfl rfl); rfl
  have l2 := leaf_of h2 hc2
  obtain ⟨bs_A, bs_n, bs_c, bs, el2, bs_k, bs_m, bs_l, bs_f⟩ := l2.floatsN (k := 5) Try.underlying97 coloursMatch_lv163 coloursMatch_co163 rfl (by decide) Try.underlying33
  cases el2
  have hc3 : v3.cells.toList = [v3] := by obtain ⟨_, rfl⟩ := okWide_float Try.underlying33 (hval 3 33 v3 rfl rfl); rfl
  have l3 := leaf_of h3 hc3
  obtain ⟨lv, el3, l3_w⟩ := l3.float Try.underlying33
  cases el3
  have hc4 : v4.cells.toList = [v4] := by obtain ⟨_, rfl⟩ := okWide_int Try.underlying3 (hval 4 3 v4 rfl rfl); rfl
  have l4 := leaf_of h4 hc4
  obtain ⟨wd, el4, l4_w⟩ := l4.int Try.underlying3
  cases el4
  clear hA0 hval0
  refine Calls.mono (coloursMatch x y wi he xs_A xs_n xs_c xs (f4 wa wb wc wc) bs_A bs_n bs_c bs lv wd W xs_l xs_f xs_m bs_l bs_f (Nat.le_trans bs_k bs_m)) fun e W' hp => ?_
  obtain ⟨v, HL, rfl, own, rfl, rfl⟩ := hp
  have bel := own.below
  exact ⟨_, rfl, _, _, _, [], _, [], hW', trodAll_mk1 (shut_bool Try.underlying4 _), (trodAll_cons_mk (Below.trod coloursMatch_laidOut (by kernel_rfl) (of_decide_eq_true (by kernel_rfl)) k0 bel lt0) (trodAll_cons_mk (Below.trod coloursMatch_laidOut (by kernel_rfl) (of_decide_eq_true (by kernel_rfl)) k1 bel lt1) (trodAll_cons_mk (Below.trod coloursMatch_laidOut (by kernel_rfl) (of_decide_eq_true (by kernel_rfl)) k2 bel lt2) (trodAll_cons_mk (Below.trod coloursMatch_laidOut (by kernel_rfl) (of_decide_eq_true (by kernel_rfl)) k3 bel lt3) (trodAll_cons_mk (Below.trod coloursMatch_laidOut (by kernel_rfl) (of_decide_eq_true (by kernel_rfl)) k4 bel lt4) trodAll_mk0))))), rfl, bel.frame _, fun h => by cases h⟩

theorem coloursMatch_over : Rows.coloursMatchRow.holds Try.pinned (OpenSpec.ofChange Rows.coloursMatchSpec) :=
  OpenClaim.holds_of_wide 13 Try.f13 rfl rfl rfl rfl rfl rfl rfl ⟨rfl, rfl, rfl, rfl, rfl⟩ rfl rfl rfl rfl rfl (by kernel_rfl) Try.func13 (by kernel_rfl)
    (of_decide_eq_true (by kernel_rfl)) (by unfold Func.isWrapper; first | (rw [if_pos (by decide +kernel)]; kernel_rfl) | (rw [if_neg (by decide +kernel)]; exact ⟨rfl, rfl⟩))
    (fun os started H enc _ => coloursMatch_lifted os started H enc)

/-- THE STATEMENT. -/
theorem colours_holds : Rows.ColoursMatchSaid := coloursMatch_over
#print axioms colours_holds
end Go.Proofs.Ytplfeaikjgfhcaa
