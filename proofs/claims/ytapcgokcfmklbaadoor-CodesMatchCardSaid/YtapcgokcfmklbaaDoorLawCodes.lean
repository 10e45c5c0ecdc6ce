/-
  The law CodesMatch of the given rows: at every input the call returns true and leaves its arguments as they were. Conditions: none.
-/
import Derived.Test.YtapcgokcfmklbaaDoorRows
import Derived.Test.YtapcgokcfmklbaaDoorCards
import Derived.Test.YtapcgokcfmklbaaDoorTie
import Derived.SevenTiedAt
import Derived.Deep.DeepLaidRun
import Derived.LaidHandle
import Derived.Test.YtapcgokcfmklbaaDoorOpen
import Derived.Test.YtapcgokcfmklbaaDoorD5
import Derived.Test.YtapcgokcfmklbaaDoorOpen2
import Derived.WalkKit
import Derived.ProofKit
import Derived.OpenShut
import Derived.ShutString
import Derived.ChangeOld
import Derived.Below
namespace Go.Proofs.YtapcgokcfmklbaaDoor
open Go Go.ChangeShapes Go.WideShapes Go.ChangeAt Go.RowKit
open Go.ChangeMaps (open_string shut_string)

theorem codesMatch_own : ownKnob Tryd.prog.godebug = none := by kernel_rfl
theorem codesMatch_laidOut : laidOutB Tryd.prog = true := by kernel_rfl
theorem codesMatch_lv59 : leaves Tryd.prog 9 59 = some [3, 3, 3, 3] := by kernel_rfl
noncomputable def codesMatch_world (os : Os) : World :=
  let w0 := World.holding Tryd.prog os ⟨#[], #[], []⟩
  { w0 with heap := (((w0.heap.modify 7 fun | .cells _ t frozen => .cells #[.int .u8 0, .int .u8 1, .int .u8 28, .int .u8 2, .int .u8 29, .int .u8 14, .int .u8 24, .int .u8 3, .int .u8 30, .int .u8 22, .int .u8 20, .int .u8 15, .int .u8 25, .int .u8 17, .int .u8 4, .int .u8 8, .int .u8 31, .int .u8 27, .int .u8 13, .int .u8 23, .int .u8 21, .int .u8 19, .int .u8 16, .int .u8 7, .int .u8 26, .int .u8 12, .int .u8 18, .int .u8 6, .int .u8 11, .int .u8 5, .int .u8 10, .int .u8 9] t frozen | o => o).modify 8 fun | .cells _ t frozen => .cells #[.int .u8 0, .int .u8 1, .int .u8 56, .int .u8 2, .int .u8 57, .int .u8 49, .int .u8 28, .int .u8 3, .int .u8 61, .int .u8 58, .int .u8 42, .int .u8 50, .int .u8 38, .int .u8 29, .int .u8 17, .int .u8 4, .int .u8 62, .int .u8 47, .int .u8 59, .int .u8 36, .int .u8 45, .int .u8 43, .int .u8 51, .int .u8 22, .int .u8 53, .int .u8 39, .int .u8 33, .int .u8 30, .int .u8 24, .int .u8 18, .int .u8 12, .int .u8 5, .int .u8 63, .int .u8 55, .int .u8 48, .int .u8 27, .int .u8 60, .int .u8 41, .int .u8 37, .int .u8 16, .int .u8 46, .int .u8 35, .int .u8 44, .int .u8 21, .int .u8 52, .int .u8 32, .int .u8 23, .int .u8 11, .int .u8 54, .int .u8 26, .int .u8 40, .int .u8 15, .int .u8 34, .int .u8 20, .int .u8 31, .int .u8 10, .int .u8 25, .int .u8 14, .int .u8 19, .int .u8 9, .int .u8 13, .int .u8 8, .int .u8 7, .int .u8 6] t frozen | o => o).modify 2 fun | .cells _ t frozen => .cells #[.int .u64 1, .int .u64 10, .int .u64 100, .int .u64 1000, .int .u64 10000, .int .u64 100000, .int .u64 1000000, .int .u64 10000000, .int .u64 100000000, .int .u64 1000000000, .int .u64 10000000000, .int .u64 100000000000, .int .u64 1000000000000, .int .u64 10000000000000, .int .u64 100000000000000, .int .u64 1000000000000000, .int .u64 10000000000000000, .int .u64 100000000000000000, .int .u64 1000000000000000000, .int .u64 10000000000000000000] t frozen | o => o) }
theorem codesMatch_met (os : Os) (args : Array Value) : laidMetH Tryd.prog Rows.codesMatchRow.laid ((codesMatch_world os).forCall (fun _ _ => 0) ⟨#[], args, []⟩).memory :=
  laidMetH_of_parts (laidMet_of_run3 8 (by kernel_rfl) (by kernel_rfl) (by kernel_rfl)) (by kernel_rfl)
set_option maxHeartbeats 4000000 in
set_option maxRecDepth 100000 in
theorem codesMatch_lifted (os : Os) (started : os.Started) (H : Type) (enc : TypeId × Value → H) :
    ReturnsInHanded {} Tryd.checked os 6 .any (fun w args => (Rows.codesMatchSpec.pre enc Tryd.prog Tryd.f6 Rows.codesMatchRow.domain false w args ∧ laidMetH Tryd.prog Rows.codesMatchRow.laid w) ∧ sizedMet enc Tryd.prog Tryd.f6 (OpenSpec.ofChange Rows.codesMatchSpec) false w args)
      (Rows.codesMatchSpec.post enc Tryd.prog Tryd.f6 false true false false) := by
  refine returnsInHanded_of_change_and (C := Tryd.checked) (X := fun w _ => laidMetH Tryd.prog Rows.codesMatchRow.laid w) (fun _ _ _ hh h => h.of_heap hh) codesMatch_own started (by kernel_rfl) Tryd.func6
    (ChangeSpec.witness_at (enc := enc) (C := Tryd.checked) (os := os) (X := fun w _ => laidMetH Tryd.prog Rows.codesMatchRow.laid w) false (codesMatch_world os) #[.int .i64 0, .int .i64 0, .agg #[.int .i64 0, .int .i64 0, .int .i64 0, .int .i64 0], .string ByteArray.empty] 8 rfl (by kernel_rfl) (by kernel_rfl) (by kernel_rfl) (by kernel_rfl) (by kernel_rfl) (codesMatch_met os _)) ?_
  intro W base args ds gs before hval0 hW _ _ hL _
  have hval : ∀ (j : Nat) t v, Tryd.f6.params[j]? = some t → args[j]? = some v → Value.okWide Tryd.prog W .any base t v := hval0
  have hW' := hW
  obtain ⟨p, q, hA0, hV, rfl, hfz, hnd⟩ := hW
  have hA : DataW.TrodAll enc Tryd.prog W 0 (fun _ => true) true Tryd.f6.params.toList args.toList ds p := hA0
  rw [Tryd.params6] at hA hval
  obtain ⟨v0, vs0, d0, ds0, p0, q0, hargs, rfl, rfl, h0, r0⟩ := trodAll_cons hA
  obtain ⟨v1, vs1, d1, ds1, p1, q1, rfl, rfl, rfl, h1, r1⟩ := trodAll_cons r0
  obtain ⟨v2, vs2, d2, ds2, p2, q2, rfl, rfl, rfl, h2, r2⟩ := trodAll_cons r1
  obtain ⟨v3, vs3, d3, ds3, p3, q3, rfl, rfl, rfl, h3, r3⟩ := trodAll_cons r2
  obtain ⟨rfl, rfl, rfl⟩ := trodAll_nil r3
  obtain rfl : args = #[v0, v1, v2, v3] := by cases args; simp_all
  obtain ⟨rfl, rfl⟩ := trodVars_none hV
  have k0 := h0
  have lt0 : ∀ x ∈ p0, x.block < W.heap.size := by obtain ⟨m, hm⟩ := k0; exact DataW.trod_lt m _ _ _ hm
  have k1 := h1
  have lt1 : ∀ x ∈ p1, x.block < W.heap.size := by obtain ⟨m, hm⟩ := k1; exact DataW.trod_lt m _ _ _ hm
  have k2 := h2
  have lt2 : ∀ x ∈ p2, x.block < W.heap.size := by obtain ⟨m, hm⟩ := k2; exact DataW.trod_lt m _ _ _ hm
  have k3 := h3
  have lt3 : ∀ x ∈ p3, x.block < W.heap.size := by obtain ⟨m, hm⟩ := k3; exact DataW.trod_lt m _ _ _ hm
  have hc0 : v0.cells.toList = [v0] := by obtain ⟨_, rfl⟩ := okWide_int Tryd.underlying3 (hval 0 3 v0 rfl rfl); rfl
  have l0 := leaf_of h0 hc0
  obtain ⟨rate, el0, l0_w⟩ := l0.int Tryd.underlying3
  cases el0
  have hc1 : v1.cells.toList = [v1] := by obtain ⟨_, rfl⟩ := okWide_int Tryd.underlying3 (hval 1 3 v1 rfl rfl); rfl
  have l1 := leaf_of h1 hc1
  obtain ⟨n, el1, l1_w⟩ := l1.int Tryd.underlying3
  cases el1
  obtain ⟨cs2, rfl, a2⟩ := open_agg Tryd.underlying59 codesMatch_lv59 (hval 2 59 v2 rfl rfl) h2
  obtain ⟨c2_0, cs2_0, rfl, l2_0, a2_0⟩ := a2.cons_inv
  obtain ⟨c2_1, cs2_1, rfl, l2_1, a2_1⟩ := a2_0.cons_inv
  obtain ⟨c2_2, cs2_2, rfl, l2_2, a2_2⟩ := a2_1.cons_inv
  obtain ⟨c2_3, cs2_3, rfl, l2_3, a2_3⟩ := a2_2.cons_inv
  obtain rfl := a2_3.nil_inv
  obtain ⟨ch, el2_0, l2_0_w⟩ := l2_0.int Tryd.underlying3
  cases el2_0
  obtain ⟨cm, el2_1, l2_1_w⟩ := l2_1.int Tryd.underlying3
  cases el2_1
  obtain ⟨cs, el2_2, l2_2_w⟩ := l2_2.int Tryd.underlying3
  cases el2_2
  obtain ⟨cf, el2_3, l2_3_w⟩ := l2_3.int Tryd.underlying3
  cases el2_3
  have hc3 : v3.cells.toList = [v3] := by obtain ⟨_, rfl⟩ := okWide_string Tryd.underlying9 (hval 3 9 v3 rfl rfl); rfl
  have l3 := leaf_of h3 hc3
  obtain ⟨t, el3, l3_w⟩ := l3.string Tryd.underlying9
  cases el3
  obtain ⟨t_l, rfl⟩ := sv_of t
  clear hA0 hval0
  refine Calls.mono (codesMatch rate n ch cm cs cf t_l W (bounds_i64 l1_w) l3_w) fun e W' hp => ?_
  obtain ⟨v, HL, rfl, own, rfl, rfl⟩ := hp
  have bel := own.below
  exact ⟨_, rfl, _, _, _, [], _, [], hW', trodAll_mk1 (shut_bool Tryd.underlying4 _), (trodAll_cons_mk (Below.trod codesMatch_laidOut (by kernel_rfl) (of_decide_eq_true (by kernel_rfl)) k0 bel lt0) (trodAll_cons_mk (Below.trod codesMatch_laidOut (by kernel_rfl) (of_decide_eq_true (by kernel_rfl)) k1 bel lt1) (trodAll_cons_mk (Below.trod codesMatch_laidOut (by kernel_rfl) (of_decide_eq_true (by kernel_rfl)) k2 bel lt2) (trodAll_cons_mk (Below.trod codesMatch_laidOut (by kernel_rfl) (of_decide_eq_true (by kernel_rfl)) k3 bel lt3) trodAll_mk0)))), rfl, bel.frame _, fun h => by cases h⟩

theorem codesMatch_over : Rows.codesMatchRow.holds Tryd.pinned (OpenSpec.ofChange Rows.codesMatchSpec) :=
  OpenClaim.holds_of_wide 6 Tryd.f6 rfl rfl rfl rfl rfl rfl rfl ⟨rfl, rfl, rfl, rfl, rfl⟩ rfl rfl rfl rfl rfl (by kernel_rfl) Tryd.func6 (by kernel_rfl)
    (of_decide_eq_true (by kernel_rfl)) (by unfold Func.isWrapper; first | (rw [if_pos (by decide +kernel)]; kernel_rfl) | (rw [if_neg (by decide +kernel)]; exact ⟨rfl, rfl⟩))
    (fun os started H enc _ => codesMatch_lifted os started H enc)

/-- THE CARD. -/
theorem codes_holds : Rows.CodesMatchCardSaid :=
  Claim7.holds_tied_plain_at .later [] [.data, .data, .data] true (true, "d5b4c5b13e6f2710a2cb662ce8480e31557b2373c652e738d697671e6e1f56ba") true
    codesMatch_over (fun _ h => by cases h) (by kernel_rfl) (fun _ h => by cases h) codesMatch_row_tie rfl ⟨rfl, rfl⟩ (by kernel_rfl) rfl
    (fun f fn hf hfn => by
      obtain rfl : f = 6 := Option.some.inj ((show Tryd.prog.funcNamed "dyehouse/dyelaw1.CodesMatch" = some 6 by kernel_rfl).symm.trans hf) |>.symm
      obtain rfl : fn = Tryd.f6 := (Option.some.inj (Tryd.func6.symm.trans hfn)).symm
      exact ⟨by kernel_rfl, fun j t ht => by
        rw [Tryd.params6] at ht
        have h3 : t = 3 ∨ t = 9 ∨ t = 59 := by
          have hj : j < 4 := (Array.getElem?_eq_some_iff.1 ht).1
          match j, hj, ht with
          | 0, _, ht => exact .inl (Option.some.inj ht).symm
          | 1, _, ht => exact .inl (Option.some.inj ht).symm
          | 2, _, ht => exact .inr (.inr ((Option.some.inj ht).symm))
          | 3, _, ht => exact .inr (.inl (Option.some.inj ht).symm)
        rcases h3 with rfl | rfl | rfl
        · exact (show Tryd.prog.wantsStandIn 3 = false by kernel_rfl)
        · exact (show Tryd.prog.wantsStandIn 9 = false by kernel_rfl)
        · exact (show Tryd.prog.wantsStandIn 59 = false by kernel_rfl)⟩)
    (by kernel_rfl)
#print axioms codes_holds
end Go.Proofs.YtapcgokcfmklbaaDoor
