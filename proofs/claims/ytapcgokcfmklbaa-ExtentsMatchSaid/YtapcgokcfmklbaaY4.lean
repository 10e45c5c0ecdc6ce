/-
  Part 4 of what the proof leans on (X1, C3, C4, C5, C6, C8, C10, Cut, C12, C14, X2, Clr, X3, X4, X5, Trk, Nn). Conditions: as each theorem says.
-/
import Derived.Test.YtapcgokcfmklbaaY3
namespace Go.Proofs.Ytapcgokcfmklbaa
open Go Go.Proofs Go.RowKit

theorem ok45 : callOK Try.prog 45 = true := by kernel_rfl
theorem ok48 : callOK Try.prog 48 = true := by kernel_rfl
theorem ok52 : callOK Try.prog 52 = true := by kernel_rfl
theorem ok56 : callOK Try.prog 56 = true := by kernel_rfl
theorem ok105 : callOK Try.prog 105 = true := by kernel_rfl
theorem ok118 : callOK Try.prog 118 = true := by kernel_rfl
theorem ok119 : callOK Try.prog 119 = true := by kernel_rfl
theorem ok149 : callOK Try.prog 149 = true := by kernel_rfl

set_option maxRecDepth 100000 in
theorem place_ (u : Nat) (W : World) (hu : u < 4294967296) : Fn_ Try.prog 105 #[flt u] W (fun v H => v = iv (plV u) ∧ H = []) := by
  refine Fn_.intro Try.func105 rfl rfl (by rfl) ?_
  refine CS.seq ?_
  refine CS.region ?_
  refine RS.q rfl (QO.assign) ?_
  refine RS.nil ?_
  refine thenC_n ?_
  refine CS.seq ?_
  refine CS.region ?_
  refine RS.q rfl (QO.move) ?_
  refine RS.q rfl (QO.ext (by rfl) (ext63 _)) ?_
  refine RS.qv rfl (QO.conv_int Try.underlying95 Try.underlying3 (by rfl)) (congrArg iv (show IntKind.i64.wrap (u : Int) = (u : Int) from w64 (by omega) (by omega))) ?_
  refine RS.q rfl (QO.assign) ?_
  refine RS.nil ?_
  refine thenC_n ?_
  refine CS.seq ?_
  refine CS.seq ?_
  refine CS.region ?_
  refine RS.q rfl (QO.move) ?_
  refine RS.q rfl (QO.and64 (by rfl) (by rfl)) ?_
  refine RS.q rfl (QO.neq (by rfl) (by rfl)) ?_
  refine RS.nil ?_
  refine thenC_n ?_
  refine CS.cond (by rfl) (fun hb0 => ?_) (fun hb0 => ?_)
  · have hb0p := bne_iff_ne.1 hb0
    refine CS.seq ?_
    refine CS.region ?_
    refine RS.q rfl (QO.move) ?_
    refine RS.q rfl (QO.and64 (by rfl) (by rfl)) ?_
    have h1 := and64_bd (i := (u : Int)) (j := 2147483647) (by decide) (by decide)
    refine RS.q rfl (QO.neg (by rfl) (by omega) (by omega)) ?_
    first | (refine RS.q rfl (QO.sub (by rfl) (by rfl) (by omega) (by omega)) ?_) | (refine RS.q rfl (QO.ibin (by rfl) (by rfl) trivial) ?_)
    refine RS.q rfl (QO.assign) ?_
    refine RS.nil ?_
    refine thenC_n ?_
    refine CS.ret ?_
    refine thenC_r ?_
    refine retQ.mk (H' := []) (.inr rfl) (RVs.tmp (by rfl) RVs.nil) (List.nil_sublist _) ?_
    exact ⟨congrArg iv (plV_1 hb0p), rfl⟩
  · have hb0p := of_bne_false hb0
    refine CS.skip ?_
    refine thenC_n ?_
    refine CS.seq ?_
    refine CS.region ?_
    refine RS.q rfl (QO.move) ?_
    refine RS.q rfl (QO.assign) ?_
    refine RS.nil ?_
    refine thenC_n ?_
    refine CS.ret ?_
    refine retQ.mk (H' := []) (.inr rfl) (RVs.tmp (by rfl) RVs.nil) (List.nil_sublist _) ?_
    exact ⟨congrArg iv (plV_2 hb0p), rfl⟩

set_option maxRecDepth 100000 in
theorem rplace (u : Nat) (W : World) (hu : u < 4294967296) : Fn_ Try.prog 149 #[flt u] W (fun v H => v = iv (plV u) ∧ H = []) := by
  refine Fn_.intro Try.func149 rfl rfl (by rfl) ?_
  refine CS.seq ?_
  refine CS.region ?_
  refine RS.q rfl (QO.assign) ?_
  refine RS.nil ?_
  refine thenC_n ?_
  refine CS.seq ?_
  refine CS.region ?_
  refine RS.q rfl (QO.move) ?_
  refine RS.q rfl (QO.ext (by rfl) (ext63 _)) ?_
  refine RS.qv rfl (QO.conv_int Try.underlying95 Try.underlying3 (by rfl)) (congrArg iv (show IntKind.i64.wrap (u : Int) = (u : Int) from w64 (by omega) (by omega))) ?_
  refine RS.q rfl (QO.assign) ?_
  refine RS.nil ?_
  refine thenC_n ?_
  refine CS.seq ?_
  refine CS.seq ?_
  refine CS.region ?_
  refine RS.q rfl (QO.move) ?_
  refine RS.q rfl (QO.geq (by rfl) (by rfl)) ?_
  refine RS.nil ?_
  refine thenC_n ?_
  refine CS.cond (by rfl) (fun hb0 => ?_) (fun hb0 => ?_)
  · have hb0p := of_decide_eq_true hb0
    refine CS.seq ?_
    refine CS.region ?_
    refine RS.q rfl (QO.move) ?_
    first | (refine RS.q rfl (QO.sub (by rfl) (by rfl) (by omega) (by omega)) ?_) | (refine RS.q rfl (QO.ibin (by rfl) (by rfl) trivial) ?_)
    refine RS.q rfl (QO.assign) ?_
    refine RS.nil ?_
    refine thenC_n ?_
    refine CS.ret ?_
    refine thenC_r ?_
    refine retQ.mk (H' := []) (.inr rfl) (RVs.tmp (by rfl) RVs.nil) (List.nil_sublist _) ?_
    exact ⟨congrArg iv (by rw [plV_eq hu, if_pos (by omega)]), rfl⟩
  · have hb0p := of_decide_eq_false hb0
    refine CS.skip ?_
    refine thenC_n ?_
    refine CS.seq ?_
    refine CS.region ?_
    refine RS.q rfl (QO.move) ?_
    refine RS.q rfl (QO.assign) ?_
    refine RS.nil ?_
    refine thenC_n ?_
    refine CS.ret ?_
    refine retQ.mk (H' := []) (.inr rfl) (RVs.tmp (by rfl) RVs.nil) (List.nil_sublist _) ?_
    exact ⟨congrArg iv (by rw [plV_eq hu, if_neg (by omega)]), rfl⟩

set_option maxRecDepth 100000 in
theorem apart_ (x y : Nat) (W : World) (hx : x < 4294967296) (hy : y < 4294967296) (nx : nan32 x = false) (ny : nan32 y = false) : Fn_ Try.prog 48 #[flt x, flt y] W (fun v H => v = .tuple #[iv (plV y - plV x), .bool true] ∧ H = []) := by
  refine Fn_.intro Try.func48 rfl rfl (by rfl) ?_
  refine CS.seq ?_
  refine CS.region ?_
  refine RS.q rfl (QO.assign) ?_
  refine RS.q rfl (QO.assign) ?_
  refine RS.nil ?_
  refine thenC_n ?_
  refine CS.seq ?_
  refine CS.seq ?_
  refine CS.region ?_
  refine RS.q rfl (QO.move) ?_
  refine RS.q rfl (QO.move) ?_
  refine RS.qv rfl (QO.fcmp32 (by rfl) (by rfl) (by simp)) (congrArg Value.bool ((fneq_self x).trans nx)) ?_
  refine RS.q rfl (QO.move) ?_
  refine RS.on (dj := 9) rfl (congrArg Value.bool rfl) ?_
  refine RS.q rfl (QO.move) ?_
  refine RS.on (dj := 9) rfl (congrArg Value.bool rfl) ?_
  refine RS.q rfl (QO.move) ?_
  refine RS.on (dj := 9) rfl (congrArg Value.bool rfl) ?_
  refine RS.qv rfl (QO.fcmp32 (by rfl) (by rfl) (by simp)) (congrArg Value.bool ((fneq_self y).trans ny)) ?_
  refine RS.q rfl (QO.pickF (by rfl) rfl (by rfl)) ?_
  refine RS.nil ?_
  refine thenC_n ?_
  refine CS.condF (by rfl) rfl ?_
  refine CS.skip ?_
  refine thenC_n ?_
  refine CS.seq ?_
  refine CS.region ?_
  refine RS.q rfl (QO.move) ?_
  refine RS.call rfl (by rfl) ok105 (by rfl) (fun w ho => place_ y _ hy) ?_
  rintro _ _ ⟨rfl, rfl⟩
  refine RS.q rfl (QO.move) ?_
  refine RS.call rfl (by rfl) ok105 (by rfl) (fun w ho => place_ x _ hx) ?_
  rintro _ _ ⟨rfl, rfl⟩
  have hpx := plV_bd hx
  have hpy := plV_bd hy
  first | (refine RS.q rfl (QO.sub (by rfl) (by rfl) (by omega) (by omega)) ?_) | (refine RS.q rfl (QO.ibin (by rfl) (by rfl) trivial) ?_)
  refine RS.q rfl (QO.assign) ?_
  refine RS.q rfl (QO.assign) ?_
  refine RS.nil ?_
  refine thenC_n ?_
  refine CS.ret ?_
  refine retQ.mk (H' := []) (.inr rfl) (RVs.tmp (by rfl) (RVs.tmp (by rfl) RVs.nil)) (List.nil_sublist _) ?_
  exact ⟨rfl, rfl⟩

set_option maxRecDepth 100000 in
theorem rapart (x y : Nat) (W : World) (hx : x < 4294967296) (hy : y < 4294967296) (nx : nan32 x = false) (ny : nan32 y = false) : Fn_ Try.prog 119 #[flt x, flt y] W (fun v H => v = .tuple #[iv (plV y - plV x), .bool true] ∧ H = []) := by
  refine Fn_.intro Try.func119 rfl rfl (by rfl) ?_
  refine CS.seq ?_
  refine CS.region ?_
  refine RS.q rfl (QO.assign) ?_
  refine RS.q rfl (QO.assign) ?_
  refine RS.nil ?_
  refine thenC_n ?_
  refine CS.seq ?_
  refine CS.seq ?_
  refine CS.region ?_
  refine RS.q rfl (QO.move) ?_
  refine RS.q rfl (QO.move) ?_
  refine RS.qv rfl (QO.fcmp32 (by rfl) (by rfl) (by simp)) (congrArg Value.bool ((fneq_self x).trans nx)) ?_
  refine RS.q rfl (QO.move) ?_
  refine RS.on (dj := 9) rfl (congrArg Value.bool rfl) ?_
  refine RS.q rfl (QO.move) ?_
  refine RS.on (dj := 9) rfl (congrArg Value.bool rfl) ?_
  refine RS.q rfl (QO.move) ?_
  refine RS.on (dj := 9) rfl (congrArg Value.bool rfl) ?_
  refine RS.qv rfl (QO.fcmp32 (by rfl) (by rfl) (by simp)) (congrArg Value.bool ((fneq_self y).trans ny)) ?_
  refine RS.q rfl (QO.pickF (by rfl) rfl (by rfl)) ?_
  refine RS.nil ?_
  refine thenC_n ?_
  refine CS.condF (by rfl) rfl ?_
  refine CS.skip ?_
  refine thenC_n ?_
  refine CS.seq ?_
  refine CS.region ?_
  refine RS.q rfl (QO.move) ?_
  refine RS.call rfl (by rfl) ok149 (by rfl) (fun w ho => rplace y _ hy) ?_
  rintro _ _ ⟨rfl, rfl⟩
  refine RS.q rfl (QO.move) ?_
  refine RS.call rfl (by rfl) ok149 (by rfl) (fun w ho => rplace x _ hx) ?_
  rintro _ _ ⟨rfl, rfl⟩
  have hpx := plV_bd hx
  have hpy := plV_bd hy
  first | (refine RS.q rfl (QO.sub (by rfl) (by rfl) (by omega) (by omega)) ?_) | (refine RS.q rfl (QO.ibin (by rfl) (by rfl) trivial) ?_)
  refine RS.q rfl (QO.assign) ?_
  refine RS.q rfl (QO.assign) ?_
  refine RS.nil ?_
  refine thenC_n ?_
  refine CS.ret ?_
  refine retQ.mk (H' := []) (.inr rfl) (RVs.tmp (by rfl) (RVs.tmp (by rfl) RVs.nil)) (List.nil_sublist _) ?_
  exact ⟨rfl, rfl⟩

set_option maxRecDepth 100000 in
theorem less00 (x y : Nat) (W : World) (hx : x < 4294967296) (hy : y < 4294967296) (nx : nan32 x = false) (ny : nan32 y = false) : Fn_ Try.prog 45 #[flt x, flt y] W (fun v H => ∃ r : Int, v = iv r ∧ (r < 0 ↔ plV x < plV y) ∧ (0 < r ↔ plV y < plV x) ∧ H = []) := by
  refine Fn_.intro Try.func45 rfl rfl (by rfl) ?_
  refine CS.seq ?_
  refine CS.region ?_
  refine RS.q rfl (QO.assign) ?_
  refine RS.nil ?_
  refine thenC_n ?_
  refine CS.seq ?_
  refine CS.block ?_
  refine CS.seq ?_
  refine CS.region ?_
  refine RS.q rfl (QO.move) ?_
  refine RS.q rfl (QO.move) ?_
  refine RS.qv rfl (QO.fcmp32 (by rfl) (by rfl) (by simp)) (congrArg Value.bool ((fneq_self x).trans nx)) ?_
  refine RS.q rfl (QO.move) ?_
  refine RS.off (dj := 11) rfl (.inl (congrArg Value.bool rfl)) (fun _ => rfl) rfl ?_
  refine RS.off (dj := 11) rfl (.inl (congrArg Value.bool rfl)) (fun _ => rfl) rfl ?_
  refine RS.off (dj := 11) rfl (.inl (congrArg Value.bool rfl)) (fun _ => rfl) rfl ?_
  refine RS.q rfl (QO.pickF (by rfl) rfl (by rfl)) ?_
  refine RS.q rfl (QO.assign) ?_
  refine RS.nil ?_
  refine thenC_n ?_
  refine CS.condF (by rfl) rfl ?_
  refine CS.seq ?_
  refine CS.region ?_
  refine RS.q rfl (QO.move) ?_
  refine RS.q rfl (QO.move) ?_
  refine RS.qv rfl (QO.fcmp32 (by rfl) (by rfl) (by simp)) (congrArg Value.bool ((fneq_self x).trans nx)) ?_
  refine RS.q rfl (QO.assign) ?_
  refine RS.nil ?_
  refine thenC_n ?_
  refine CS.condF (by rfl) rfl ?_
  refine CS.seq ?_
  refine CS.region ?_
  refine RS.q rfl (QO.move) ?_
  refine RS.q rfl (QO.move) ?_
  refine RS.qv rfl (QO.fcmp32 (by rfl) (by rfl) (by simp)) (congrArg Value.bool ((fneq_self y).trans ny)) ?_
  refine RS.q rfl (QO.assign) ?_
  refine RS.nil ?_
  refine thenC_n ?_
  refine CS.condF (by rfl) rfl ?_
  refine CS.skip ?_
  refine blockC_n ?_
  refine thenC_n ?_
  refine CS.seq ?_
  refine CS.region ?_
  refine RS.q rfl (QO.move) ?_
  refine RS.q rfl (QO.move) ?_
  refine RS.call rfl (by rfl) ok48 (by rfl) (fun w ho => apart_ y x _ hy hx ny nx) ?_
  rintro _ _ ⟨rfl, rfl⟩
  refine RS.q rfl (QO.move) ?_
  refine RS.q rfl (QO.extract (by rfl) (by rfl)) ?_
  refine RS.q rfl (QO.extract (by rfl) (by rfl)) ?_
  refine RS.q rfl (QO.assign) ?_
  refine RS.q rfl (QO.assign) ?_
  refine RS.nil ?_
  refine thenC_n ?_
  refine CS.seq ?_
  refine CS.region ?_
  refine RS.q rfl (QO.move) ?_
  refine RS.q rfl (QO.assign) ?_
  refine RS.nil ?_
  refine thenC_n ?_
  refine CS.ret ?_
  refine retQ.mk (H' := []) (.inr rfl) (RVs.tmp (by rfl) RVs.nil) (List.nil_sublist _) ?_
  exact ⟨_, rfl, by omega, by omega, rfl⟩

set_option maxRecDepth 100000 in
theorem less01 (x y : Nat) (W : World) (hx : x < 4294967296) (hy : y < 4294967296) (nx : nan32 x = false) (ny : nan32 y = true) : Fn_ Try.prog 45 #[flt x, flt y] W (fun v H => v = iv (-1) ∧ H = []) := by
  refine Fn_.intro Try.func45 rfl rfl (by rfl) ?_
  refine CS.seq ?_
  refine CS.region ?_
  refine RS.q rfl (QO.assign) ?_
  refine RS.nil ?_
  refine thenC_n ?_
  refine CS.seq ?_
  refine CS.block ?_
  refine CS.seq ?_
  refine CS.region ?_
  refine RS.q rfl (QO.move) ?_
  refine RS.q rfl (QO.move) ?_
  refine RS.qv rfl (QO.fcmp32 (by rfl) (by rfl) (by simp)) (congrArg Value.bool ((fneq_self x).trans nx)) ?_
  refine RS.q rfl (QO.move) ?_
  refine RS.off (dj := 11) rfl (.inl (congrArg Value.bool rfl)) (fun _ => rfl) rfl ?_
  refine RS.off (dj := 11) rfl (.inl (congrArg Value.bool rfl)) (fun _ => rfl) rfl ?_
  refine RS.off (dj := 11) rfl (.inl (congrArg Value.bool rfl)) (fun _ => rfl) rfl ?_
  refine RS.q rfl (QO.pickF (by rfl) rfl (by rfl)) ?_
  refine RS.q rfl (QO.assign) ?_
  refine RS.nil ?_
  refine thenC_n ?_
  refine CS.condF (by rfl) rfl ?_
  refine CS.seq ?_
  refine CS.region ?_
  refine RS.q rfl (QO.move) ?_
  refine RS.q rfl (QO.move) ?_
  refine RS.qv rfl (QO.fcmp32 (by rfl) (by rfl) (by simp)) (congrArg Value.bool ((fneq_self x).trans nx)) ?_
  refine RS.q rfl (QO.assign) ?_
  refine RS.nil ?_
  refine thenC_n ?_
  refine CS.condF (by rfl) rfl ?_
  refine CS.seq ?_
  refine CS.region ?_
  refine RS.q rfl (QO.move) ?_
  refine RS.q rfl (QO.move) ?_
  refine RS.qv rfl (QO.fcmp32 (by rfl) (by rfl) (by simp)) (congrArg Value.bool ((fneq_self y).trans ny)) ?_
  refine RS.q rfl (QO.assign) ?_
  refine RS.nil ?_
  refine thenC_n ?_
  refine CS.condT (by rfl) rfl ?_
  refine CS.seq ?_
  refine CS.region ?_
  refine RS.q rfl (QO.assign) ?_
  refine RS.nil ?_
  refine thenC_n ?_
  refine CS.ret ?_
  refine blockC_r ?_
  refine thenC_r ?_
  refine retQ.mk (H' := []) (.inr rfl) (RVs.tmp (by rfl) RVs.nil) (List.nil_sublist _) ?_
  exact ⟨rfl, rfl⟩

set_option maxRecDepth 100000 in
theorem less10 (x y : Nat) (W : World) (hx : x < 4294967296) (hy : y < 4294967296) (nx : nan32 x = true) (ny : nan32 y = false) : Fn_ Try.prog 45 #[flt x, flt y] W (fun v H => v = iv 1 ∧ H = []) := by
  refine Fn_.intro Try.func45 rfl rfl (by rfl) ?_
  refine CS.seq ?_
  refine CS.region ?_
  refine RS.q rfl (QO.assign) ?_
  refine RS.nil ?_
  refine thenC_n ?_
  refine CS.seq ?_
  refine CS.block ?_
  refine CS.seq ?_
  refine CS.region ?_
  refine RS.q rfl (QO.move) ?_
  refine RS.q rfl (QO.move) ?_
  refine RS.qv rfl (QO.fcmp32 (by rfl) (by rfl) (by simp)) (congrArg Value.bool ((fneq_self x).trans nx)) ?_
  refine RS.q rfl (QO.move) ?_
  refine RS.on (dj := 11) rfl (congrArg Value.bool rfl) ?_
  refine RS.q rfl (QO.move) ?_
  refine RS.on (dj := 11) rfl (congrArg Value.bool rfl) ?_
  refine RS.q rfl (QO.move) ?_
  refine RS.on (dj := 11) rfl (congrArg Value.bool rfl) ?_
  refine RS.qv rfl (QO.fcmp32 (by rfl) (by rfl) (by simp)) (congrArg Value.bool ((fneq_self y).trans ny)) ?_
  refine RS.q rfl (QO.pickT (by rfl) rfl (by rfl)) ?_
  refine RS.q rfl (QO.assign) ?_
  refine RS.nil ?_
  refine thenC_n ?_
  refine CS.condF (by rfl) rfl ?_
  refine CS.seq ?_
  refine CS.region ?_
  refine RS.q rfl (QO.move) ?_
  refine RS.q rfl (QO.move) ?_
  refine RS.qv rfl (QO.fcmp32 (by rfl) (by rfl) (by simp)) (congrArg Value.bool ((fneq_self x).trans nx)) ?_
  refine RS.q rfl (QO.assign) ?_
  refine RS.nil ?_
  refine thenC_n ?_
  refine CS.condT (by rfl) rfl ?_
  refine CS.seq ?_
  refine CS.region ?_
  refine RS.q rfl (QO.assign) ?_
  refine RS.nil ?_
  refine thenC_n ?_
  refine CS.ret ?_
  refine blockC_r ?_
  refine thenC_r ?_
  refine retQ.mk (H' := []) (.inr rfl) (RVs.tmp (by rfl) RVs.nil) (List.nil_sublist _) ?_
  exact ⟨rfl, rfl⟩

set_option maxRecDepth 100000 in
theorem less11 (x y : Nat) (W : World) (hx : x < 4294967296) (hy : y < 4294967296) (nx : nan32 x = true) (ny : nan32 y = true) : Fn_ Try.prog 45 #[flt x, flt y] W (fun v H => v = iv 0 ∧ H = []) := by
  refine Fn_.intro Try.func45 rfl rfl (by rfl) ?_
  refine CS.seq ?_
  refine CS.region ?_
  refine RS.q rfl (QO.assign) ?_
  refine RS.nil ?_
  refine thenC_n ?_
  refine CS.seq ?_
  refine CS.block ?_
  refine CS.seq ?_
  refine CS.region ?_
  refine RS.q rfl (QO.move) ?_
  refine RS.q rfl (QO.move) ?_
  refine RS.qv rfl (QO.fcmp32 (by rfl) (by rfl) (by simp)) (congrArg Value.bool ((fneq_self x).trans nx)) ?_
  refine RS.q rfl (QO.move) ?_
  refine RS.on (dj := 11) rfl (congrArg Value.bool rfl) ?_
  refine RS.q rfl (QO.move) ?_
  refine RS.on (dj := 11) rfl (congrArg Value.bool rfl) ?_
  refine RS.q rfl (QO.move) ?_
  refine RS.on (dj := 11) rfl (congrArg Value.bool rfl) ?_
  refine RS.qv rfl (QO.fcmp32 (by rfl) (by rfl) (by simp)) (congrArg Value.bool ((fneq_self y).trans ny)) ?_
  refine RS.q rfl (QO.pickT (by rfl) rfl (by rfl)) ?_
  refine RS.q rfl (QO.assign) ?_
  refine RS.nil ?_
  refine thenC_n ?_
  refine CS.condT (by rfl) rfl ?_
  refine CS.seq ?_
  refine CS.region ?_
  refine RS.q rfl (QO.assign) ?_
  refine RS.nil ?_
  refine thenC_n ?_
  refine CS.ret ?_
  refine blockC_r ?_
  refine thenC_r ?_
  refine retQ.mk (H' := []) (.inr rfl) (RVs.tmp (by rfl) RVs.nil) (List.nil_sublist _) ?_
  exact ⟨rfl, rfl⟩

theorem less_ (x y : Nat) (W : World) (hx : x < 4294967296) (hy : y < 4294967296) : Fn_ Try.prog 45 #[flt x, flt y] W (fun v H => ∃ r : Int, v = iv r ∧ decide (r < 0) = exL x y ∧ decide (0 < r) = exL y x ∧ H = []) := by
  have bx := plV_bd hx
  have by_ := plV_bd hy
  unfold exL
  cases nx : nan32 x <;> cases ny : nan32 y
  · refine (less00 x y W hx hy nx ny).mono fun v H h => ?_
    obtain ⟨r, rfl, h1, h2, rfl⟩ := h
    rw [exK_num nx, exK_num ny]
    exact ⟨r, rfl, decide_eq_decide.2 h1, decide_eq_decide.2 h2, rfl⟩
  · refine (less01 x y W hx hy nx ny).mono fun v H h => ?_
    obtain ⟨rfl, rfl⟩ := h
    rw [exK_num nx, exK_nan ny]
    exact ⟨-1, rfl, decide_eq_decide.2 (by omega), decide_eq_decide.2 (by omega), rfl⟩
  · refine (less10 x y W hx hy nx ny).mono fun v H h => ?_
    obtain ⟨rfl, rfl⟩ := h
    rw [exK_nan nx, exK_num ny]
    exact ⟨1, rfl, decide_eq_decide.2 (by omega), decide_eq_decide.2 (by omega), rfl⟩
  · refine (less11 x y W hx hy nx ny).mono fun v H h => ?_
    obtain ⟨rfl, rfl⟩ := h
    rw [exK_nan nx, exK_nan ny]
    exact ⟨0, rfl, decide_eq_decide.2 (by omega), decide_eq_decide.2 (by omega), rfl⟩

set_option maxRecDepth 100000 in
theorem inOrd00 (x y : Nat) (W : World) (hx : x < 4294967296) (hy : y < 4294967296) (nx : nan32 x = false) (ny : nan32 y = false) : Fn_ Try.prog 118 #[flt x, flt y] W (fun v H => ∃ r : Int, v = iv r ∧ (r < 0 ↔ plV x < plV y) ∧ (0 < r ↔ plV y < plV x) ∧ H = []) := by
  refine Fn_.intro Try.func118 rfl rfl (by rfl) ?_
  refine CS.seq ?_
  refine CS.region ?_
  refine RS.q rfl (QO.assign) ?_
  refine RS.nil ?_
  refine thenC_n ?_
  refine CS.seq ?_
  refine CS.block ?_
  refine CS.seq ?_
  refine CS.region ?_
  refine RS.q rfl (QO.move) ?_
  refine RS.q rfl (QO.move) ?_
  refine RS.qv rfl (QO.fcmp32 (by rfl) (by rfl) (by simp)) (congrArg Value.bool ((fneq_self x).trans nx)) ?_
  refine RS.q rfl (QO.move) ?_
  refine RS.off (dj := 11) rfl (.inl (congrArg Value.bool rfl)) (fun _ => rfl) rfl ?_
  refine RS.off (dj := 11) rfl (.inl (congrArg Value.bool rfl)) (fun _ => rfl) rfl ?_
  refine RS.off (dj := 11) rfl (.inl (congrArg Value.bool rfl)) (fun _ => rfl) rfl ?_
  refine RS.q rfl (QO.pickF (by rfl) rfl (by rfl)) ?_
  refine RS.q rfl (QO.assign) ?_
  refine RS.nil ?_
  refine thenC_n ?_
  refine CS.condF (by rfl) rfl ?_
  refine CS.seq ?_
  refine CS.region ?_
  refine RS.q rfl (QO.move) ?_
  refine RS.q rfl (QO.move) ?_
  refine RS.qv rfl (QO.fcmp32 (by rfl) (by rfl) (by simp)) (congrArg Value.bool ((fneq_self x).trans nx)) ?_
  refine RS.q rfl (QO.assign) ?_
  refine RS.nil ?_
  refine thenC_n ?_
  refine CS.condF (by rfl) rfl ?_
  refine CS.seq ?_
  refine CS.region ?_
  refine RS.q rfl (QO.move) ?_
  refine RS.q rfl (QO.move) ?_
  refine RS.qv rfl (QO.fcmp32 (by rfl) (by rfl) (by simp)) (congrArg Value.bool ((fneq_self y).trans ny)) ?_
  refine RS.q rfl (QO.assign) ?_
  refine RS.nil ?_
  refine thenC_n ?_
  refine CS.condF (by rfl) rfl ?_
  refine CS.skip ?_
  refine blockC_n ?_
  refine thenC_n ?_
  refine CS.seq ?_
  refine CS.region ?_
  refine RS.q rfl (QO.move) ?_
  refine RS.q rfl (QO.move) ?_
  refine RS.call rfl (by rfl) ok119 (by rfl) (fun w ho => rapart x y _ hx hy nx ny) ?_
  rintro _ _ ⟨rfl, rfl⟩
  refine RS.q rfl (QO.move) ?_
  refine RS.q rfl (QO.extract (by rfl) (by rfl)) ?_
  refine RS.q rfl (QO.extract (by rfl) (by rfl)) ?_
  refine RS.q rfl (QO.assign) ?_
  refine RS.q rfl (QO.assign) ?_
  refine RS.nil ?_
  refine thenC_n ?_
  refine CS.seq ?_
  refine CS.block ?_
  refine CS.seq ?_
  refine CS.region ?_
  refine RS.q rfl (QO.move) ?_
  refine RS.q rfl (QO.gtr (by rfl) (by rfl)) ?_
  refine RS.q rfl (QO.assign) ?_
  refine RS.nil ?_
  refine thenC_n ?_
  refine CS.cond (by rfl) (fun hb0 => ?_) (fun hb0 => ?_)
  · have hb0p := of_decide_eq_true hb0
    refine CS.seq ?_
    refine CS.region ?_
    refine RS.q rfl (QO.assign) ?_
    refine RS.nil ?_
    refine thenC_n ?_
    refine CS.ret ?_
    refine blockC_r ?_
    refine thenC_r ?_
    refine retQ.mk (H' := []) (.inr rfl) (RVs.tmp (by rfl) RVs.nil) (List.nil_sublist _) ?_
    exact ⟨_, rfl, by omega, by omega, rfl⟩
  · have hb0p := of_decide_eq_false hb0
    refine CS.seq ?_
    refine CS.region ?_
    refine RS.q rfl (QO.move) ?_
    refine RS.q rfl (QO.lss (by rfl) (by rfl)) ?_
    refine RS.q rfl (QO.assign) ?_
    refine RS.nil ?_
    refine thenC_n ?_
    refine CS.cond (by rfl) (fun hb1 => ?_) (fun hb1 => ?_)
    · have hb1p := of_decide_eq_true hb1
      refine CS.seq ?_
      refine CS.region ?_
      refine RS.q rfl (QO.assign) ?_
      refine RS.nil ?_
      refine thenC_n ?_
      refine CS.ret ?_
      refine blockC_r ?_
      refine thenC_r ?_
      refine retQ.mk (H' := []) (.inr rfl) (RVs.tmp (by rfl) RVs.nil) (List.nil_sublist _) ?_
      exact ⟨_, rfl, by omega, by omega, rfl⟩
    · have hb1p := of_decide_eq_false hb1
      refine CS.skip ?_
      refine blockC_n ?_
      refine thenC_n ?_
      refine CS.seq ?_
      refine CS.region ?_
      refine RS.q rfl (QO.assign) ?_
      refine RS.nil ?_
      refine thenC_n ?_
      refine CS.ret ?_
      refine retQ.mk (H' := []) (.inr rfl) (RVs.tmp (by rfl) RVs.nil) (List.nil_sublist _) ?_
      exact ⟨_, rfl, by omega, by omega, rfl⟩

set_option maxRecDepth 100000 in
theorem inOrd01 (x y : Nat) (W : World) (hx : x < 4294967296) (hy : y < 4294967296) (nx : nan32 x = false) (ny : nan32 y = true) : Fn_ Try.prog 118 #[flt x, flt y] W (fun v H => v = iv (-1) ∧ H = []) := by
  refine Fn_.intro Try.func118 rfl rfl (by rfl) ?_
  refine CS.seq ?_
  refine CS.region ?_
  refine RS.q rfl (QO.assign) ?_
  refine RS.nil ?_
  refine thenC_n ?_
  refine CS.seq ?_
  refine CS.block ?_
  refine CS.seq ?_
  refine CS.region ?_
  refine RS.q rfl (QO.move) ?_
  refine RS.q rfl (QO.move) ?_
  refine RS.qv rfl (QO.fcmp32 (by rfl) (by rfl) (by simp)) (congrArg Value.bool ((fneq_self x).trans nx)) ?_
  refine RS.q rfl (QO.move) ?_
  refine RS.off (dj := 11) rfl (.inl (congrArg Value.bool rfl)) (fun _ => rfl) rfl ?_
  refine RS.off (dj := 11) rfl (.inl (congrArg Value.bool rfl)) (fun _ => rfl) rfl ?_
  refine RS.off (dj := 11) rfl (.inl (congrArg Value.bool rfl)) (fun _ => rfl) rfl ?_
  refine RS.q rfl (QO.pickF (by rfl) rfl (by rfl)) ?_
  refine RS.q rfl (QO.assign) ?_
  refine RS.nil ?_
  refine thenC_n ?_
  refine CS.condF (by rfl) rfl ?_
  refine CS.seq ?_
  refine CS.region ?_
  refine RS.q rfl (QO.move) ?_
  refine RS.q rfl (QO.move) ?_
  refine RS.qv rfl (QO.fcmp32 (by rfl) (by rfl) (by simp)) (congrArg Value.bool ((fneq_self x).trans nx)) ?_
  refine RS.q rfl (QO.assign) ?_
  refine RS.nil ?_
  refine thenC_n ?_
  refine CS.condF (by rfl) rfl ?_
  refine CS.seq ?_
  refine CS.region ?_
  refine RS.q rfl (QO.move) ?_
  refine RS.q rfl (QO.move) ?_
  refine RS.qv rfl (QO.fcmp32 (by rfl) (by rfl) (by simp)) (congrArg Value.bool ((fneq_self y).trans ny)) ?_
  refine RS.q rfl (QO.assign) ?_
  refine RS.nil ?_
  refine thenC_n ?_
  refine CS.condT (by rfl) rfl ?_
  refine CS.seq ?_
  refine CS.region ?_
  refine RS.q rfl (QO.assign) ?_
  refine RS.nil ?_
  refine thenC_n ?_
  refine CS.ret ?_
  refine blockC_r ?_
  refine thenC_r ?_
  refine retQ.mk (H' := []) (.inr rfl) (RVs.tmp (by rfl) RVs.nil) (List.nil_sublist _) ?_
  exact ⟨rfl, rfl⟩

set_option maxRecDepth 100000 in
theorem inOrd10 (x y : Nat) (W : World) (hx : x < 4294967296) (hy : y < 4294967296) (nx : nan32 x = true) (ny : nan32 y = false) : Fn_ Try.prog 118 #[flt x, flt y] W (fun v H => v = iv 1 ∧ H = []) := by
  refine Fn_.intro Try.func118 rfl rfl (by rfl) ?_
  refine CS.seq ?_
  refine CS.region ?_
  refine RS.q rfl (QO.assign) ?_
  refine RS.nil ?_
  refine thenC_n ?_
  refine CS.seq ?_
  refine CS.block ?_
  refine CS.seq ?_
  refine CS.region ?_
  refine RS.q rfl (QO.move) ?_
  refine RS.q rfl (QO.move) ?_
  refine RS.qv rfl (QO.fcmp32 (by rfl) (by rfl) (by simp)) (congrArg Value.bool ((fneq_self x).trans nx)) ?_
  refine RS.q rfl (QO.move) ?_
  refine RS.on (dj := 11) rfl (congrArg Value.bool rfl) ?_
  refine RS.q rfl (QO.move) ?_
  refine RS.on (dj := 11) rfl (congrArg Value.bool rfl) ?_
  refine RS.q rfl (QO.move) ?_
  refine RS.on (dj := 11) rfl (congrArg Value.bool rfl) ?_
  refine RS.qv rfl (QO.fcmp32 (by rfl) (by rfl) (by simp)) (congrArg Value.bool ((fneq_self y).trans ny)) ?_
  refine RS.q rfl (QO.pickT (by rfl) rfl (by rfl)) ?_
  refine RS.q rfl (QO.assign) ?_
  refine RS.nil ?_
  refine thenC_n ?_
  refine CS.condF (by rfl) rfl ?_
  refine CS.seq ?_
  refine CS.region ?_
  refine RS.q rfl (QO.move) ?_
  refine RS.q rfl (QO.move) ?_
  refine RS.qv rfl (QO.fcmp32 (by rfl) (by rfl) (by simp)) (congrArg Value.bool ((fneq_self x).trans nx)) ?_
  refine RS.q rfl (QO.assign) ?_
  refine RS.nil ?_
  refine thenC_n ?_
  refine CS.condT (by rfl) rfl ?_
  refine CS.seq ?_
  refine CS.region ?_
  refine RS.q rfl (QO.assign) ?_
  refine RS.nil ?_
  refine thenC_n ?_
  refine CS.ret ?_
  refine blockC_r ?_
  refine thenC_r ?_
  refine retQ.mk (H' := []) (.inr rfl) (RVs.tmp (by rfl) RVs.nil) (List.nil_sublist _) ?_
  exact ⟨rfl, rfl⟩

set_option maxRecDepth 100000 in
theorem inOrd11 (x y : Nat) (W : World) (hx : x < 4294967296) (hy : y < 4294967296) (nx : nan32 x = true) (ny : nan32 y = true) : Fn_ Try.prog 118 #[flt x, flt y] W (fun v H => v = iv 0 ∧ H = []) := by
  refine Fn_.intro Try.func118 rfl rfl (by rfl) ?_
  refine CS.seq ?_
  refine CS.region ?_
  refine RS.q rfl (QO.assign) ?_
  refine RS.nil ?_
  refine thenC_n ?_
  refine CS.seq ?_
  refine CS.block ?_
  refine CS.seq ?_
  refine CS.region ?_
  refine RS.q rfl (QO.move) ?_
  refine RS.q rfl (QO.move) ?_
  refine RS.qv rfl (QO.fcmp32 (by rfl) (by rfl) (by simp)) (congrArg Value.bool ((fneq_self x).trans nx)) ?_
  refine RS.q rfl (QO.move) ?_
  refine RS.on (dj := 11) rfl (congrArg Value.bool rfl) ?_
  refine RS.q rfl (QO.move) ?_
  refine RS.on (dj := 11) rfl (congrArg Value.bool rfl) ?_
  refine RS.q rfl (QO.move) ?_
  refine RS.on (dj := 11) rfl (congrArg Value.bool rfl) ?_
  refine RS.qv rfl (QO.fcmp32 (by rfl) (by rfl) (by simp)) (congrArg Value.bool ((fneq_self y).trans ny)) ?_
  refine RS.q rfl (QO.pickT (by rfl) rfl (by rfl)) ?_
  refine RS.q rfl (QO.assign) ?_
  refine RS.nil ?_
  refine thenC_n ?_
  refine CS.condT (by rfl) rfl ?_
  refine CS.seq ?_
  refine CS.region ?_
  refine RS.q rfl (QO.assign) ?_
  refine RS.nil ?_
  refine thenC_n ?_
  refine CS.ret ?_
  refine blockC_r ?_
  refine thenC_r ?_
  refine retQ.mk (H' := []) (.inr rfl) (RVs.tmp (by rfl) RVs.nil) (List.nil_sublist _) ?_
  exact ⟨rfl, rfl⟩

theorem inOrd_ (x y : Nat) (W : World) (hx : x < 4294967296) (hy : y < 4294967296) : Fn_ Try.prog 118 #[flt x, flt y] W (fun v H => ∃ r : Int, v = iv r ∧ decide (r < 0) = exL x y ∧ decide (0 < r) = exL y x ∧ H = []) := by
  have bx := plV_bd hx
  have by_ := plV_bd hy
  unfold exL
  cases nx : nan32 x <;> cases ny : nan32 y
  · refine (inOrd00 x y W hx hy nx ny).mono fun v H h => ?_
    obtain ⟨r, rfl, h1, h2, rfl⟩ := h
    rw [exK_num nx, exK_num ny]
    exact ⟨r, rfl, decide_eq_decide.2 h1, decide_eq_decide.2 h2, rfl⟩
  · refine (inOrd01 x y W hx hy nx ny).mono fun v H h => ?_
    obtain ⟨rfl, rfl⟩ := h
    rw [exK_num nx, exK_nan ny]
    exact ⟨-1, rfl, decide_eq_decide.2 (by omega), decide_eq_decide.2 (by omega), rfl⟩
  · refine (inOrd10 x y W hx hy nx ny).mono fun v H h => ?_
    obtain ⟨rfl, rfl⟩ := h
    rw [exK_nan nx, exK_num ny]
    exact ⟨1, rfl, decide_eq_decide.2 (by omega), decide_eq_decide.2 (by omega), rfl⟩
  · refine (inOrd11 x y W hx hy nx ny).mono fun v H h => ?_
    obtain ⟨rfl, rfl⟩ := h
    rw [exK_nan nx, exK_nan ny]
    exact ⟨0, rfl, decide_eq_decide.2 (by omega), decide_eq_decide.2 (by omega), rfl⟩

def gd (xs : List Nat) (i : Nat) : Nat := xs.getD i 0
theorem lst_gd (xs : List Nat) : lst (gd xs) xs.length = xs := by
  apply List.ext_getElem
  · rw [lst_len]
  · intro i h1 h2
    simp [lst, gd, h2]
theorem gd_at {xs : List Nat} {i : Nat} (h : i < xs.length) : xs[i]? = some (gd xs i) := by
  unfold gd
  rw [List.getD_eq_getElem?_getD, List.getElem?_eq_getElem h]; rfl
theorem gd_32 {xs : List Nat} (h : ∀ x ∈ xs, x < 4294967296) (i : Nat) : gd xs i < 4294967296 := by
  unfold gd
  rw [List.getD_eq_getElem?_getD]
  cases e : xs[i]? with
  | none => exact (by decide : (0 : Nat) < 4294967296)
  | some z => exact h z (List.mem_of_getElem? e)
theorem fl_gd (xs : List Nat) (junk : List Value) : fl (gd xs) xs.length junk = xs.map flt ++ junk := by unfold fl; rw [lst_gd]

set_option maxHeartbeats 4000000 in
set_option maxRecDepth 100000 in
theorem minF (A : Option Addr) (n c : Nat) (xs : List Nat) (W : World) (hn : xs.length = n) (hA : FS W A xs) (h0 : 0 < n) (hm : n ≤ 1000000) (h32 : ∀ x ∈ xs, x < 4294967296) : Fn_ Try.prog 54 #[.slice A n c, .func (.func 45) #[] #[]] W (fun v H => ∃ k, v = flt (gd xs k) ∧ k < n ∧ (∀ j, j < n → exL (gd xs j) (gd xs k) = false) ∧ H = []) := by
  have hx0 := hA (by omega)
  obtain ⟨bS, oS, hAA, hcS⟩ := hx0
  subst hAA
  have hd32 := gd_32 h32
  refine Fn_.intro Try.func54 rfl rfl (by rfl) ?_
  refine CS.seq ?_
  refine CS.region ?_
  refine RS.q rfl (QO.assign) ?_
  refine RS.nil ?_
  refine thenC_n ?_
  refine CS.seq ?_
  refine CS.seq ?_
  refine CS.region ?_
  refine RS.q rfl (QO.move) ?_
  refine RS.q rfl (QO.lenS Try.underlying24 (by rfl)) ?_
  refine RS.q rfl (QO.lss (by rfl) (by rfl)) ?_
  refine RS.nil ?_
  refine thenC_n ?_
  refine CS.condF (by rfl) (decide_eq_false (by omega)) ?_
  refine CS.skip ?_
  refine thenC_n ?_
  refine CS.seq ?_
  refine CS.region ?_
  refine RS.q rfl (QO.move) ?_
  first | (refine RS.q rfl (QO.idx0 Try.underlying24 ty29 (by rfl) (by rfl) (by rfl) (by omega)) ?_) | (refine RS.q rfl (QO.idxn Try.underlying24 ty29 (by rfl) (by rfl) (by rfl) (by omega)) ?_) | (refine RS.q rfl (QO.idx1 Try.underlying24 ty29 (by rfl) (by rfl) (by omega) (by omega)) ?_)
  refine RS.q rfl (QO.loadO ty29 (by rfl) (hcS 0 _ (gd_at (show 0 < xs.length by omega)))) ?_
  refine RS.q rfl (QO.assign) ?_
  refine RS.nil ?_
  refine thenC_n ?_
  refine CS.seq ?_
  refine CS.seq ?_
  refine CS.region ?_
  refine RS.q rfl (QO.assign) ?_
  refine RS.nil ?_
  refine thenC_n ?_
  refine CS.block ?_
  refine CS.loop (X := Nat × Nat) (5 :: 6 :: 14 :: 15 :: 16 :: 17 :: 18 :: 19 :: 20 :: 21 :: 22 :: 23 :: 24 :: 25 :: 26 :: 27 :: 28 :: 29 :: 30 :: 31 :: []) (fun z => [(5, flt (gd xs z.2)), (6, iv (z.1 : Int))]) (fun z => []) (fun z => (1 ≤ z.1 ∧ z.1 ≤ n) ∧ z.2 < z.1 ∧ ∀ j, j < z.1 → exL (gd xs j) (gd xs z.2) = false) (fun z => n - z.1) (1, 0) ⟨(by show 1 ≤ 1 ∧ 1 ≤ n; omega), (by show 0 < 1; omega), fun j hj => (by
    have e : j = 0 := (by show j = 0; exact Nat.lt_one_iff.1 hj)
    subst e; exact exO.refl _)⟩ ?_ ?_ ?_
  · exact (by repeat (first | exact kn_nil | refine kn_cons (by rfl) ?_))
  · exact (by repeat (first | exact List.Sublist.refl _ | exact List.nil_sublist _ | refine List.Sublist.cons_cons _ ?_ | refine List.Sublist.cons _ ?_ | exact Sbp.refl | exact Sbp.nil | refine Sbp.cons (by repeat (first | exact Rem.head | apply Rem.tail)) ?_ | exact Sbp.app | refine Sbp.skip ?_ | exact List.sublist_append_left _ _ | exact List.sublist_append_right _ _))
  · intro z gj5 hz
    obtain ⟨i, k⟩ := z
    obtain ⟨hi, hk, hall⟩ := hz
    replace hi : 1 ≤ i ∧ i ≤ n := hi
    replace hk : k < i := hk
    replace hall : ∀ j, j < i → exL (gd xs j) (gd xs k) = false := hall
    show CS _ _ _ _ _ (puts (mix _ _ _) [(5, flt (gd xs k)), (6, iv (i : Int))]) ([])
    refine CS.seq ?_
    refine CS.seq ?_
    refine CS.region ?_
    refine RS.q rfl (QO.move) ?_
    refine RS.q rfl (QO.move) ?_
    refine RS.q rfl (QO.lenS Try.underlying24 (by rfl)) ?_
    refine RS.q rfl (QO.lss (by rfl) (by rfl)) ?_
    refine RS.nil ?_
    refine thenC_n ?_
    refine CS.cond (by rfl) (fun hb0 => ?_) (fun hb0 => ?_)
    · have hb0p := of_decide_eq_true hb0
      refine CS.skip ?_
      refine thenC_n ?_
      refine CS.seq ?_
      refine CS.block ?_
      refine CS.seq ?_
      refine CS.region ?_
      refine RS.q rfl (QO.move) ?_
      refine RS.q rfl (QO.move) ?_
      refine RS.q rfl (QO.move) ?_
      first | (refine RS.q rfl (QO.idx0 Try.underlying24 ty29 (by rfl) (by rfl) (by rfl) (by omega)) ?_) | (refine RS.q rfl (QO.idxn Try.underlying24 ty29 (by rfl) (by rfl) (by rfl) (by omega)) ?_) | (refine RS.q rfl (QO.idx1 Try.underlying24 ty29 (by rfl) (by rfl) (by omega) (by omega)) ?_)
      refine RS.q rfl (QO.loadO ty29 (by rfl) (hcS i _ (gd_at (show i < xs.length by omega)))) ?_
      refine RS.q rfl (QO.move) ?_
      refine RS.call rfl (by rfl) ok45 (by rfl) (fun w ho => less_ (gd xs i) (gd xs k) _ (hd32 _) (hd32 _)) ?_
      rintro _ _ ⟨r26, rfl, hl26, hg26, rfl⟩
      refine RS.qv rfl (QO.lss (by rfl) (by rfl)) (congrArg Value.bool hl26) ?_
      refine RS.nil ?_
      refine thenC_n ?_
      refine CS.cond (by rfl) (fun hb1 => ?_) (fun hb1 => ?_)
      · have hb1p := of_decide_eq_true hb1
        refine CS.region ?_
        refine RS.q rfl (QO.move) ?_
        refine RS.q rfl (QO.move) ?_
        first | (refine RS.q rfl (QO.idx0 Try.underlying24 ty29 (by rfl) (by rfl) (by rfl) (by omega)) ?_) | (refine RS.q rfl (QO.idxn Try.underlying24 ty29 (by rfl) (by rfl) (by rfl) (by omega)) ?_) | (refine RS.q rfl (QO.idx1 Try.underlying24 ty29 (by rfl) (by rfl) (by omega) (by omega)) ?_)
        refine RS.q rfl (QO.loadO ty29 (by rfl) (hcS i _ (gd_at (show i < xs.length by omega)))) ?_
        refine RS.q rfl (QO.assign) ?_
        refine RS.nil ?_
        refine blockC_n ?_
        refine thenC_n ?_
        refine CS.region ?_
        refine RS.q rfl (QO.move) ?_
        first | (refine RS.q rfl (QO.add (by rfl) (by rfl) (by omega) (by omega)) ?_) | (refine RS.q rfl (QO.ibin (by rfl) (by rfl) trivial) ?_)
        refine RS.q rfl (QO.assign) ?_
        refine RS.nil ?_
        refine loopQ_n (by intro t ht; repeat (first | with_reducible exact rfl | exact frame_puts ht (frame_mix ht) _ rfl | (refine frame_put rfl ht ?_) | (refine frame_puts ht ?_ _ rfl) | exact frame_mix ht | (refine frame_mix2 rfl ht ?_) | exact rfl)) ?_
        exact ⟨(i + 1, i), ⟨(by show 1 ≤ i + 1 ∧ i + 1 ≤ n; omega), (by show i < i + 1; omega), fun j hj => (by
            show exL (gd xs j) (gd xs i) = false
            by_cases e : j = i
            · rw [e]; exact exO.refl _
            · exact exO.trans _ _ _ (exO.asym _ _ hb1) (hall j (by omega)))⟩, by show n - (i + 1) < n - i; omega, (by repeat (first | exact kn_nil | refine kn_cons (by rfl) ?_)), (by repeat (first | exact List.Sublist.refl _ | exact List.nil_sublist _ | refine List.Sublist.cons_cons _ ?_ | refine List.Sublist.cons _ ?_ | exact Sbp.refl | exact Sbp.nil | refine Sbp.cons (by repeat (first | exact Rem.head | apply Rem.tail)) ?_ | exact Sbp.app | refine Sbp.skip ?_ | exact List.sublist_append_left _ _ | exact List.sublist_append_right _ _))⟩
      · have hb1p := of_decide_eq_false hb1
        refine CS.skip ?_
        refine blockC_n ?_
        refine thenC_n ?_
        refine CS.region ?_
        refine RS.q rfl (QO.move) ?_
        first | (refine RS.q rfl (QO.add (by rfl) (by rfl) (by omega) (by omega)) ?_) | (refine RS.q rfl (QO.ibin (by rfl) (by rfl) trivial) ?_)
        refine RS.q rfl (QO.assign) ?_
        refine RS.nil ?_
        refine loopQ_n (by intro t ht; repeat (first | with_reducible exact rfl | exact frame_puts ht (frame_mix ht) _ rfl | (refine frame_put rfl ht ?_) | (refine frame_puts ht ?_ _ rfl) | exact frame_mix ht | (refine frame_mix2 rfl ht ?_) | exact rfl)) ?_
        exact ⟨(i + 1, k), ⟨(by show 1 ≤ i + 1 ∧ i + 1 ≤ n; omega), (by show k < i + 1; omega), fun j hj => (by
            show exL (gd xs j) (gd xs k) = false
            by_cases e : j = i
            · rw [e]; exact hb1
            · exact hall j (by omega))⟩, by show n - (i + 1) < n - i; omega, (by repeat (first | exact kn_nil | refine kn_cons (by rfl) ?_)), (by repeat (first | exact List.Sublist.refl _ | exact List.nil_sublist _ | refine List.Sublist.cons_cons _ ?_ | refine List.Sublist.cons _ ?_ | exact Sbp.refl | exact Sbp.nil | refine Sbp.cons (by repeat (first | exact Rem.head | apply Rem.tail)) ?_ | exact Sbp.app | refine Sbp.skip ?_ | exact List.sublist_append_left _ _ | exact List.sublist_append_right _ _))⟩
    · have hb0p := of_decide_eq_false hb0
      refine CS.exit ?_
      refine thenC_x ?_
      refine loopQ_x ?_
      refine blockC_x ?_
      refine thenC_n ?_
      refine CS.seq ?_
      refine CS.region ?_
      refine RS.q rfl (QO.move) ?_
      refine RS.q rfl (QO.assign) ?_
      refine RS.nil ?_
      refine thenC_n ?_
      refine CS.ret ?_
      refine retQ.mk (H' := []) (.inr rfl) (RVs.tmp (by rfl) RVs.nil) (List.nil_sublist _) ?_
      exact ⟨k, rfl, by omega, fun j hj => hall j (by omega), rfl⟩

set_option maxHeartbeats 4000000 in
set_option maxRecDepth 100000 in
theorem maxF (A : Option Addr) (n c : Nat) (xs : List Nat) (W : World) (hn : xs.length = n) (hA : FS W A xs) (h0 : 0 < n) (hm : n ≤ 1000000) (h32 : ∀ x ∈ xs, x < 4294967296) : Fn_ Try.prog 55 #[.slice A n c, .func (.func 45) #[] #[]] W (fun v H => ∃ k, v = flt (gd xs k) ∧ k < n ∧ (∀ j, j < n → exL (gd xs k) (gd xs j) = false) ∧ H = []) := by
  have hx0 := hA (by omega)
  obtain ⟨bS, oS, hAA, hcS⟩ := hx0
  subst hAA
  have hd32 := gd_32 h32
  refine Fn_.intro Try.func55 rfl rfl (by rfl) ?_
  refine CS.seq ?_
  refine CS.region ?_
  refine RS.q rfl (QO.assign) ?_
  refine RS.nil ?_
  refine thenC_n ?_
  refine CS.seq ?_
  refine CS.seq ?_
  refine CS.region ?_
  refine RS.q rfl (QO.move) ?_
  refine RS.q rfl (QO.lenS Try.underlying24 (by rfl)) ?_
  refine RS.q rfl (QO.lss (by rfl) (by rfl)) ?_
  refine RS.nil ?_
  refine thenC_n ?_
  refine CS.condF (by rfl) (decide_eq_false (by omega)) ?_
  refine CS.skip ?_
  refine thenC_n ?_
  refine CS.seq ?_
  refine CS.region ?_
  refine RS.q rfl (QO.move) ?_
  first | (refine RS.q rfl (QO.idx0 Try.underlying24 ty29 (by rfl) (by rfl) (by rfl) (by omega)) ?_) | (refine RS.q rfl (QO.idxn Try.underlying24 ty29 (by rfl) (by rfl) (by rfl) (by omega)) ?_) | (refine RS.q rfl (QO.idx1 Try.underlying24 ty29 (by rfl) (by rfl) (by omega) (by omega)) ?_)
  refine RS.q rfl (QO.loadO ty29 (by rfl) (hcS 0 _ (gd_at (show 0 < xs.length by omega)))) ?_
  refine RS.q rfl (QO.assign) ?_
  refine RS.nil ?_
  refine thenC_n ?_
  refine CS.seq ?_
  refine CS.seq ?_
  refine CS.region ?_
  refine RS.q rfl (QO.assign) ?_
  refine RS.nil ?_
  refine thenC_n ?_
  refine CS.block ?_
  refine CS.loop (X := Nat × Nat) (5 :: 6 :: 14 :: 15 :: 16 :: 17 :: 18 :: 19 :: 20 :: 21 :: 22 :: 23 :: 24 :: 25 :: 26 :: 27 :: 28 :: 29 :: 30 :: 31 :: []) (fun z => [(5, flt (gd xs z.2)), (6, iv (z.1 : Int))]) (fun z => []) (fun z => (1 ≤ z.1 ∧ z.1 ≤ n) ∧ z.2 < z.1 ∧ ∀ j, j < z.1 → exL (gd xs z.2) (gd xs j) = false) (fun z => n - z.1) (1, 0) ⟨(by show 1 ≤ 1 ∧ 1 ≤ n; omega), (by show 0 < 1; omega), fun j hj => (by
    have e : j = 0 := (by show j = 0; exact Nat.lt_one_iff.1 hj)
    subst e; exact exO.refl _)⟩ ?_ ?_ ?_
  · exact (by repeat (first | exact kn_nil | refine kn_cons (by rfl) ?_))
  · exact (by repeat (first | exact List.Sublist.refl _ | exact List.nil_sublist _ | refine List.Sublist.cons_cons _ ?_ | refine List.Sublist.cons _ ?_ | exact Sbp.refl | exact Sbp.nil | refine Sbp.cons (by repeat (first | exact Rem.head | apply Rem.tail)) ?_ | exact Sbp.app | refine Sbp.skip ?_ | exact List.sublist_append_left _ _ | exact List.sublist_append_right _ _))
  · intro z gj5 hz
    obtain ⟨i, k⟩ := z
    obtain ⟨hi, hk, hall⟩ := hz
    replace hi : 1 ≤ i ∧ i ≤ n := hi
    replace hk : k < i := hk
    replace hall : ∀ j, j < i → exL (gd xs k) (gd xs j) = false := hall
    show CS _ _ _ _ _ (puts (mix _ _ _) [(5, flt (gd xs k)), (6, iv (i : Int))]) ([])
    refine CS.seq ?_
    refine CS.seq ?_
    refine CS.region ?_
    refine RS.q rfl (QO.move) ?_
    refine RS.q rfl (QO.move) ?_
    refine RS.q rfl (QO.lenS Try.underlying24 (by rfl)) ?_
    refine RS.q rfl (QO.lss (by rfl) (by rfl)) ?_
    refine RS.nil ?_
    refine thenC_n ?_
    refine CS.cond (by rfl) (fun hb0 => ?_) (fun hb0 => ?_)
    · have hb0p := of_decide_eq_true hb0
      refine CS.skip ?_
      refine thenC_n ?_
      refine CS.seq ?_
      refine CS.block ?_
      refine CS.seq ?_
      refine CS.region ?_
      refine RS.q rfl (QO.move) ?_
      refine RS.q rfl (QO.move) ?_
      refine RS.q rfl (QO.move) ?_
      first | (refine RS.q rfl (QO.idx0 Try.underlying24 ty29 (by rfl) (by rfl) (by rfl) (by omega)) ?_) | (refine RS.q rfl (QO.idxn Try.underlying24 ty29 (by rfl) (by rfl) (by rfl) (by omega)) ?_) | (refine RS.q rfl (QO.idx1 Try.underlying24 ty29 (by rfl) (by rfl) (by omega) (by omega)) ?_)
      refine RS.q rfl (QO.loadO ty29 (by rfl) (hcS i _ (gd_at (show i < xs.length by omega)))) ?_
      refine RS.q rfl (QO.move) ?_
      refine RS.call rfl (by rfl) ok45 (by rfl) (fun w ho => less_ (gd xs i) (gd xs k) _ (hd32 _) (hd32 _)) ?_
      rintro _ _ ⟨r26, rfl, hl26, hg26, rfl⟩
      refine RS.qv rfl (QO.gtr (by rfl) (by rfl)) (congrArg Value.bool hg26) ?_
      refine RS.nil ?_
      refine thenC_n ?_
      refine CS.cond (by rfl) (fun hb1 => ?_) (fun hb1 => ?_)
      · have hb1p := of_decide_eq_true hb1
        refine CS.region ?_
        refine RS.q rfl (QO.move) ?_
        refine RS.q rfl (QO.move) ?_
        first | (refine RS.q rfl (QO.idx0 Try.underlying24 ty29 (by rfl) (by rfl) (by rfl) (by omega)) ?_) | (refine RS.q rfl (QO.idxn Try.underlying24 ty29 (by rfl) (by rfl) (by rfl) (by omega)) ?_) | (refine RS.q rfl (QO.idx1 Try.underlying24 ty29 (by rfl) (by rfl) (by omega) (by omega)) ?_)
        refine RS.q rfl (QO.loadO ty29 (by rfl) (hcS i _ (gd_at (show i < xs.length by omega)))) ?_
        refine RS.q rfl (QO.assign) ?_
        refine RS.nil ?_
        refine blockC_n ?_
        refine thenC_n ?_
        refine CS.region ?_
        refine RS.q rfl (QO.move) ?_
        first | (refine RS.q rfl (QO.add (by rfl) (by rfl) (by omega) (by omega)) ?_) | (refine RS.q rfl (QO.ibin (by rfl) (by rfl) trivial) ?_)
        refine RS.q rfl (QO.assign) ?_
        refine RS.nil ?_
        refine loopQ_n (by intro t ht; repeat (first | with_reducible exact rfl | exact frame_puts ht (frame_mix ht) _ rfl | (refine frame_put rfl ht ?_) | (refine frame_puts ht ?_ _ rfl) | exact frame_mix ht | (refine frame_mix2 rfl ht ?_) | exact rfl)) ?_
        exact ⟨(i + 1, i), ⟨(by show 1 ≤ i + 1 ∧ i + 1 ≤ n; omega), (by show i < i + 1; omega), fun j hj => (by
            show exL (gd xs i) (gd xs j) = false
            by_cases e : j = i
            · rw [e]; exact exO.refl _
            · exact exO.trans _ _ _ (hall j (by omega)) (exO.asym _ _ hb1))⟩, by show n - (i + 1) < n - i; omega, (by repeat (first | exact kn_nil | refine kn_cons (by rfl) ?_)), (by repeat (first | exact List.Sublist.refl _ | exact List.nil_sublist _ | refine List.Sublist.cons_cons _ ?_ | refine List.Sublist.cons _ ?_ | exact Sbp.refl | exact Sbp.nil | refine Sbp.cons (by repeat (first | exact Rem.head | apply Rem.tail)) ?_ | exact Sbp.app | refine Sbp.skip ?_ | exact List.sublist_append_left _ _ | exact List.sublist_append_right _ _))⟩
      · have hb1p := of_decide_eq_false hb1
        refine CS.skip ?_
        refine blockC_n ?_
        refine thenC_n ?_
        refine CS.region ?_
        refine RS.q rfl (QO.move) ?_
        first | (refine RS.q rfl (QO.add (by rfl) (by rfl) (by omega) (by omega)) ?_) | (refine RS.q rfl (QO.ibin (by rfl) (by rfl) trivial) ?_)
        refine RS.q rfl (QO.assign) ?_
        refine RS.nil ?_
        refine loopQ_n (by intro t ht; repeat (first | with_reducible exact rfl | exact frame_puts ht (frame_mix ht) _ rfl | (refine frame_put rfl ht ?_) | (refine frame_puts ht ?_ _ rfl) | exact frame_mix ht | (refine frame_mix2 rfl ht ?_) | exact rfl)) ?_
        exact ⟨(i + 1, k), ⟨(by show 1 ≤ i + 1 ∧ i + 1 ≤ n; omega), (by show k < i + 1; omega), fun j hj => (by
            show exL (gd xs k) (gd xs j) = false
            by_cases e : j = i
            · rw [e]; exact hb1
            · exact hall j (by omega))⟩, by show n - (i + 1) < n - i; omega, (by repeat (first | exact kn_nil | refine kn_cons (by rfl) ?_)), (by repeat (first | exact List.Sublist.refl _ | exact List.nil_sublist _ | refine List.Sublist.cons_cons _ ?_ | refine List.Sublist.cons _ ?_ | exact Sbp.refl | exact Sbp.nil | refine Sbp.cons (by repeat (first | exact Rem.head | apply Rem.tail)) ?_ | exact Sbp.app | refine Sbp.skip ?_ | exact List.sublist_append_left _ _ | exact List.sublist_append_right _ _))⟩
    · have hb0p := of_decide_eq_false hb0
      refine CS.exit ?_
      refine thenC_x ?_
      refine loopQ_x ?_
      refine blockC_x ?_
      refine thenC_n ?_
      refine CS.seq ?_
      refine CS.region ?_
      refine RS.q rfl (QO.move) ?_
      refine RS.q rfl (QO.assign) ?_
      refine RS.nil ?_
      refine thenC_n ?_
      refine CS.ret ?_
      refine retQ.mk (H' := []) (.inr rfl) (RVs.tmp (by rfl) RVs.nil) (List.nil_sublist _) ?_
      exact ⟨k, rfl, by omega, fun j hj => hall j (by omega), rfl⟩

theorem flt1 (xs : List Nat) : (xs.map flt).all (·.oneCell') = true := by
  rw [List.all_eq_true]
  intro u hu
  obtain ⟨x, _, rfl⟩ := List.mem_map.1 hu
  rfl

set_option maxHeartbeats 4000000 in
set_option maxRecDepth 100000 in
theorem cloneF (A : Option Addr) (n c : Nat) (xs : List Nat) (W : World) (hn : xs.length = n) (hA : FS W A xs) (h0 : 0 < n) (hm : n ≤ 1000000) (h32 : ∀ x ∈ xs, x < 4294967296) : Fn_ Try.prog 52 #[.slice A n c] W (fun v H => ∃ g cap junk, v = .slice (some ⟨g, 0, none⟩) n cap ∧ H = [⟨g, 29, fl (gd xs) n junk⟩] ∧ n ≤ cap ∧ cap ≤ maxLen) := by
  have hx0 := hA (by omega)
  obtain ⟨bS, oS, hAA, hcS⟩ := hx0
  subst hAA
  have hd32 := gd_32 h32
  have hsrc : ∀ j u, (xs.map flt)[j]? = some u → W.cell? ((⟨bS, oS, none⟩ : Addr).add j) = some u := fun j u hj => by
    rw [List.getElem?_map] at hj
    obtain ⟨q, hq, rfl⟩ := Option.map_eq_some_iff.1 hj
    rw [addr_add]
    exact hcS j q hq
  refine Fn_.intro Try.func52 rfl rfl (by rfl) ?_
  refine CS.seq ?_
  refine CS.region ?_
  refine RS.q rfl (QO.assign) ?_
  refine RS.nil ?_
  refine thenC_n ?_
  refine CS.seq ?_
  refine CS.seq ?_
  refine CS.region ?_
  refine RS.q rfl (QO.move) ?_
  refine RS.q rfl (QO.sliceNil Try.underlying24 (by rfl) (by rfl)) ?_
  refine RS.nil ?_
  refine thenC_n ?_
  refine CS.condF (by rfl) rfl ?_
  refine CS.skip ?_
  refine thenC_n ?_
  refine CS.seq ?_
  refine CS.region ?_
  refine RS.buildSlice0 rfl Try.underlying24 ty29 ?_
  intro g5
  refine RS.q rfl (QO.move) ?_
  refine RS.appendRow rfl Try.underlying24 ty29 (by rfl) (Row.own (el := 29) (g := g5) (xs := []) (junk := []) rfl rfl (Nat.le_refl 0) (Nat.zero_le _)) (by repeat (first | exact Suf.base | apply Suf.cons)) (a := ⟨bS, oS, none⟩) (news := xs.map flt) (by rfl) (.inl hsrc) (by rw [List.length_map, hn]; exact (Nat.mul_one _).symm) (flt1 xs) (by decide) h0 (by unfold maxLen; omega) (by omega) ?_
  intro v7 H7 hrow7
  have hx1 := hrow7.some (by omega)
  obtain ⟨gl, cp, jk, hv7, hH7, hcp, hcpx, hln⟩ := hx1
  rw [Nat.zero_add] at hv7 hcp
  subst hv7 hH7
  refine RS.q rfl (QO.assign) ?_
  refine RS.nil ?_
  refine thenC_n ?_
  refine CS.ret ?_
  refine retQ.mk (H' := [⟨gl, 29, [] ++ xs.map flt ++ jk⟩]) (.inr rfl) (RVs.tmp (by rfl) RVs.nil) (by repeat (first | exact List.Sublist.refl _ | exact List.nil_sublist _ | refine List.Sublist.cons_cons _ ?_ | refine List.Sublist.cons _ ?_ | exact Sbp.refl | exact Sbp.nil | refine Sbp.cons (by repeat (first | exact Rem.head | apply Rem.tail)) ?_ | exact Sbp.app | refine Sbp.skip ?_ | exact List.sublist_append_left _ _ | exact List.sublist_append_right _ _)) ?_
  exact ⟨gl, cp, jk, rfl, (by subst hn; rw [fl_gd]; rfl), hcp, hcpx⟩

set_option maxHeartbeats 4000000 in
set_option maxRecDepth 100000 in
theorem inOrder_ (A : Option Addr) (n c : Nat) (xs : List Nat) (W : World) (hn : xs.length = n) (hA : FS W A xs) (h0 : 0 < n) (hm : n ≤ 1000000) (h32 : ∀ x ∈ xs, x < 4294967296) : Fn_ Try.prog 66 #[.slice A n c] W (fun v H => ∃ g cap junk d2, v = .slice (some ⟨g, 0, none⟩) n cap ∧ H = [⟨g, 29, fl d2 n junk⟩] ∧ Mv n 0 n (gd xs) d2 ∧ So exL 0 n d2) := by
  refine Fn_.intro Try.func66 rfl rfl (by rfl) ?_
  refine CS.seq ?_
  refine CS.region ?_
  refine RS.q rfl (QO.assign) ?_
  refine RS.nil ?_
  refine thenC_n ?_
  refine CS.seq ?_
  refine CS.region ?_
  refine RS.q rfl (QO.move) ?_
  refine RS.call rfl (by rfl) ok52 (by rfl) (fun w ho => cloneF A n c xs _ hn (hA.own ho) h0 hm h32) ?_
  rintro _ _ ⟨gl, cp, jk, rfl, rfl, hcp, hcpx⟩
  refine RS.q rfl (QO.assign) ?_
  refine RS.nil ?_
  refine thenC_n ?_
  refine CS.seq ?_
  refine CS.region ?_
  refine RS.q rfl (QO.move) ?_
  refine RS.callH (⟨gl, 29, fl (gd xs) n jk⟩ :: []) rfl (by rfl) ok56 (by rfl) (by repeat (first | exact List.Sublist.refl _ | exact List.nil_sublist _ | refine List.Sublist.cons_cons _ ?_ | refine List.Sublist.cons _ ?_ | exact Sbp.refl | exact Sbp.nil | refine Sbp.cons (by repeat (first | exact Rem.head | apply Rem.tail)) ?_ | exact Sbp.app | refine Sbp.skip ?_ | exact List.sublist_append_left _ _ | exact List.sublist_append_right _ _)) (fun w ho => sortStable_ gl n cp jk [] _ 118 hm exL exO ok118 (fun wd Hd _ x y hx hy => (inOrd_ x y wd hx hy).mono fun v H h => by obtain ⟨r, h1, h2, _, h4⟩ := h; exact ⟨r, h1, h2, h4⟩) (gd xs) (gd_32 h32)) ?_
  rintro _ _ ⟨d2, rfl, m2, s2⟩
  refine RS.nil ?_
  refine thenC_n ?_
  refine CS.seq ?_
  refine CS.region ?_
  refine RS.q rfl (QO.move) ?_
  refine RS.q rfl (QO.assign) ?_
  refine RS.nil ?_
  refine thenC_n ?_
  refine CS.ret ?_
  refine retQ.mk (H' := [⟨gl, 29, fl d2 n jk⟩]) (.inr rfl) (RVs.tmp (by rfl) RVs.nil) (by repeat (first | exact List.Sublist.refl _ | exact List.nil_sublist _ | refine List.Sublist.cons_cons _ ?_ | refine List.Sublist.cons _ ?_ | exact Sbp.refl | exact Sbp.nil | refine Sbp.cons (by repeat (first | exact Rem.head | apply Rem.tail)) ?_ | exact Sbp.app | refine Sbp.skip ?_ | exact List.sublist_append_left _ _ | exact List.sublist_append_right _ _)) ?_
  exact ⟨gl, cp, jk, d2, rfl, rfl, m2, s2⟩

end Go.Proofs.Ytapcgokcfmklbaa

namespace Go.Proofs.Ytapcgokcfmklbaa
open Go Go.Proofs Go.RowKit

/-- A frame that a call hands back: its numbers stand in a block of its own. -/
def MadeR (x y wi he : Int) (vals : List Nat) (v : Value) (H : HL) : Prop := ∃ g cap junk, v = .agg #[iv x, iv y, iv wi, iv he, .slice (some ⟨g, 0, none⟩) vals.length cap] ∧ H = [⟨g, 29, vals.map flt ++ junk⟩] ∧ vals.length ≤ cap ∧ cap ≤ maxLen
/-- the numbers of a frame whose pixels are turned one by one -/
def eachV (T : Nat → (Nat → Nat) → Nat) (xs : List Nat) (m : Nat) : List Nat := (List.range m).map fun i => cl (T (i % 4) fun c => xs.getD (4 * (i / 4) + c) 0)
end Go.Proofs.Ytapcgokcfmklbaa

namespace Go.Proofs.Ytapcgokcfmklbaa
open Go Go.Proofs Go.RowKit

/-- Planes that come in: four slices. -/
abbrev plsv (A : Nat → Option Addr) (n c : Nat → Nat) : List Value := [.slice (A 0) (n 0) (c 0), .slice (A 1) (n 1) (c 1), .slice (A 2) (n 2) (c 2), .slice (A 3) (n 3) (c 3)]
/-- what FromPlanes finds -/
def fpErr (x y wi he : Int) (n : Nat → Nat) : Int := if regErr x y wi he ≠ 0 then regErr x y wi he else if (List.range 4).all (fun k => decide ((n k : Int) = wi * he)) = true then 0 else 2
theorem fpErr_ok {x y wi he : Int} {n : Nat → Nat} (h : regErr x y wi he = 0) (hn : ∀ k, k < 4 → (n k : Int) = wi * he) : fpErr x y wi he n = 0 := by
  unfold fpErr
  rw [if_neg (by simpa using h), if_pos (List.all_eq_true.2 fun k hk => by simpa using hn k (List.mem_range.1 hk))]
/-- the numbers of a frame of planes -/
def fpV (xs : Nat → List Nat) (N : Nat) : List Nat := (List.range N).map fun i => cl ((xs (i % 4)).getD (i / 4) 0)
def FPR (x y wi he : Int) (n : Nat → Nat) (xs : Nat → List Nat) (v : Value) (H : HL) : Prop :=
  (fpErr x y wi he n ≠ 0 ∧ v = .tuple #[.agg #[iv 0, iv 0, iv 0, iv 0, .slice none 0 0], iv (fpErr x y wi he n)] ∧ H = []) ∨
  (fpErr x y wi he n = 0 ∧ ∃ (g N : Nat), (N : Int) = 4 * wi * he ∧ v = .tuple #[.agg #[iv x, iv y, iv wi, iv he, .slice (some ⟨g, 0, none⟩) N N], iv 0] ∧ H = [⟨g, 29, (fpV xs N).map flt⟩])

end Go.Proofs.Ytapcgokcfmklbaa

namespace Go.Proofs.Ytapcgokcfmklbaa
open Go Go.Proofs Go.RowKit

theorem regErr_small {X Y : Int} {a b : Nat} (ha : 1 ≤ a ∧ a ≤ 8) (hb : 1 ≤ b ∧ b ≤ 8) (hX : -1000 ≤ X ∧ X ≤ 1000) (hY : -1000 ≤ Y ∧ Y ≤ 1000) : regErr X Y a b = 0 := by
  have h5 : a * b ≤ 8 * 8 := Nat.mul_le_mul ha.2 hb.2
  have h6 : ((a * b : Nat) : Int) = (a : Int) * (b : Int) := Int.natCast_mul ..
  unfold regErr outR
  rw [if_neg (by omega), if_neg (by omega), if_neg (by simp; omega)]
/-- four planes, as far as they are there -/
def gsL (G : Nat → Nat) (m k : Nat) : List Value := (List.range 4).map fun i => if i < k then .slice (some ⟨G i, 0, none⟩) m m else .slice none 0 0
theorem fpV_planes (ys : List Nat) (m : Nat) (h : ys.length = 4 * m) : fpV (fun i => planeV ys (i : Int) m) (4 * m) = ys.map cl := by
  unfold fpV
  apply List.ext_getElem
  · simp [h]
  · intro i h1 h2
    simp at h1 h2
    have h3 : i / 4 < m := by omega
    have h4 : (planeV ys ((i % 4 : Nat) : Int) m)[i / 4]? = some (planeF ys ((i % 4 : Nat) : Int) (i / 4)) := by
      unfold planeV
      rw [List.getElem?_map, List.getElem?_range h3]; rfl
    have h5 : (4 * ((i / 4 : Nat) : Int) + ((i % 4 : Nat) : Int)).toNat = i := by omega
    simp only [List.getElem_map, List.getElem_range]
    rw [List.getD_eq_getElem?_getD, h4]
    show cl (planeF ys ((i % 4 : Nat) : Int) (i / 4)) = _
    unfold planeF
    rw [cl_cl, h5, getD_at]
theorem FPR.ok {x y : Int} {a b : Nat} {ys : List Nat} {v : Value} {H : HL} (hr : regErr x y a b = 0) (hN : ys.length = 4 * (a * b)) (h : FPR x y a b (fun _ => a * b) (fun i => planeV ys (i : Int) (a * b)) v H) :
    ∃ g, v = .tuple #[.agg #[iv x, iv y, iv (a : Int), iv (b : Int), .slice (some ⟨g, 0, none⟩) ys.length ys.length], iv 0] ∧ H = [⟨g, 29, (ys.map cl).map flt⟩] := by
  have h6 : ((a * b : Nat) : Int) = (a : Int) * (b : Int) := Int.natCast_mul ..
  have h7 : 4 * (a : Int) * (b : Int) = 4 * ((a : Int) * (b : Int)) := Int.mul_assoc ..
  have h0 : fpErr x y a b (fun _ => a * b) = 0 := fpErr_ok hr fun _ _ => h6
  rcases h with ⟨h1, _⟩ | ⟨_, g, N, hNN, rfl, rfl⟩
  · exact absurd h0 h1
  · obtain rfl : N = 4 * (a * b) := by omega
    rw [fpV_planes _ _ hN, ← hN]
    exact ⟨g, rfl, rfl⟩
theorem FPR.any {x y wi he : Int} {n : Nat → Nat} {xs : Nat → List Nat} {v : Value} {H : HL} (h : FPR x y wi he n xs v H) :
    ∃ (x9 y9 w9 h9 : Int) (A9 : Option Addr) (n9 : Nat), v = .tuple #[.agg #[iv x9, iv y9, iv w9, iv h9, .slice A9 n9 n9], iv (fpErr x y wi he n)] ∧ (fpErr x y wi he n ≠ 0 → n9 = 0) := by
  rcases h with ⟨h1, rfl, rfl⟩ | ⟨h1, g, N, hNN, rfl, rfl⟩
  · exact ⟨_, _, _, _, _, _, rfl, fun _ => rfl⟩
  · rw [h1]
    exact ⟨_, _, _, _, _, _, rfl, fun h => absurd rfl h⟩
/-- what the law makes of the planes -/
def wkErr (x y wi he : Int) (n : Nat → Nat) (k : Nat) : Int := if regErr x y wi he ≠ 0 then regErr x y wi he else if (List.range k).all (fun k => decide ((n k : Int) = wi * he)) = true then 0 else 2
end Go.Proofs.Ytapcgokcfmklbaa

namespace Go.Proofs.Ytapcgokcfmklbaa
open Go Go.Proofs Go.RowKit

/-- is the first region inside the second -/
def insB (ax ay aw ah bx bz bw bh : Int) : Bool := decide (bx ≤ ax ∧ bz ≤ ay ∧ ax ≤ bx + bw - aw ∧ ay ≤ bz + bh - ah)
def smallI (x : Int) : Prop := -4611686018427387904 ≤ x ∧ x ≤ 2305843009213693952

/-- a frame brought to another region -/
def likeV (xs : List Nat) (N : Nat) : List Nat := (List.range N).map fun i => xs.getD (i % xs.length) 0
/-- do the first k numbers of pixel i agree -/
def sameK (ys zs : List Nat) (i k : Nat) : Bool := (List.range k).all fun c => ((cl (ys.getD (4 * i + c) 0) : Nat) : Int) == (cl (zs.getD (4 * i + c) 0) : Nat)
/-- how many of the first m pixels differ -/
def cnt (ys zs : List Nat) : Nat → Nat
  | 0 => 0
  | m + 1 => cnt ys zs m + if sameK ys zs m 4 then 0 else 1
/-- the box holds every pixel that differs -/
def boxOK (ys zs : List Nat) (a : Nat) (k : Nat) (L T R B : Int) : Prop := ∀ i, i < k → sameK ys zs i 4 = false → L ≤ ((i % a : Nat) : Int) ∧ T ≤ ((i / a : Nat) : Int) ∧ ((i % a : Nat) : Int) + 1 ≤ R ∧ ((i / a : Nat) : Int) + 1 ≤ B
end Go.Proofs.Ytapcgokcfmklbaa

namespace Go.Proofs.Ytapcgokcfmklbaa
open Go Go.Proofs Go.RowKit

theorem ok62 : callOK Try.prog 62 = true := by kernel_rfl
/-- what a mix of two numbers gives -/
def lerpV (a b t : Nat) : Nat := if fcmpB .eql t 0 then cl a else if fcmpB .eql t 1065353216 then cl b else fo .add a (fo .mul (fo .sub b a) t)
def f2 {α : Type} (a b : α) (k : Nat) : α := if k = 0 then a else b
/-- what is wrong with a matte -/
def mErr (x y w h : Int) (n : Nat) : Int := if regErr x y w h ≠ 0 then regErr x y w h else if (n : Int) ≠ w * h then 2 else 0
set_option maxRecDepth 100000 in
theorem when (is : Bool) (e : Int) (W : World) : Fn_ Try.prog 62 #[.bool is, iv e] W (fun v H => v = iv (if is then e else 0) ∧ H = []) := by
  refine Fn_.intro Try.func62 rfl rfl (by rfl) ?_
  refine CS.seq ?_
  refine CS.region ?_
  refine RS.q rfl (QO.assign) ?_
  refine RS.nil ?_
  refine thenC_n ?_
  refine CS.seq ?_
  refine CS.seq ?_
  refine CS.region ?_
  refine RS.q rfl (QO.move) ?_
  refine RS.nil ?_
  refine thenC_n ?_
  refine CS.cond (by rfl) (fun hb0 => ?_) (fun hb0 => ?_)
  · refine CS.seq ?_
    refine CS.region ?_
    refine RS.q rfl (QO.move) ?_
    refine RS.q rfl (QO.assign) ?_
    refine RS.nil ?_
    refine thenC_n ?_
    refine CS.ret ?_
    refine thenC_r ?_
    refine retQ.mk (H' := []) (.inr rfl) (RVs.tmp (by rfl) RVs.nil) (List.nil_sublist _) ?_
    exact ⟨congrArg iv (by rw [hb0]; rfl), rfl⟩
  · refine CS.skip ?_
    refine thenC_n ?_
    refine CS.seq ?_
    refine CS.region ?_
    refine RS.q rfl (QO.assign) ?_
    refine RS.nil ?_
    refine thenC_n ?_
    refine CS.ret ?_
    refine retQ.mk (H' := []) (.inr rfl) (RVs.tmp (by rfl) RVs.nil) (List.nil_sublist _) ?_
    exact ⟨congrArg iv (by rw [hb0]; rfl), rfl⟩

/-- what a call that hands back a frame or an error comes to -/
def FrR (err X Y wi he : Int) (vals : List Nat) (v : Value) (H : HL) : Prop :=
  (err = 0 ∧ ∃ g cap junk, v = .tuple #[.agg #[iv X, iv Y, iv wi, iv he, .slice (some ⟨g, 0, none⟩) vals.length cap], iv 0] ∧ H = [⟨g, 29, vals.map flt ++ junk⟩] ∧ vals.length ≤ cap ∧ cap ≤ maxLen) ∨
  (err ≠ 0 ∧ v = .tuple #[.agg #[iv 0, iv 0, iv 0, iv 0, .slice none 0 0], iv err] ∧ H = [])
def FV (err X Y wi he : Int) (vals : List Nat) (x y w h : Int) (A : Option Addr) (n : Nat) (H : HL) : Prop :=
  (err ≠ 0 ∧ x = 0 ∧ y = 0 ∧ w = 0 ∧ h = 0 ∧ n = 0) ∨ (err = 0 ∧ x = X ∧ y = Y ∧ w = wi ∧ h = he ∧ n = vals.length ∧ n ≤ maxLen ∧ ∃ g junk, A = some ⟨g, 0, none⟩ ∧ (⟨g, 29, vals.map flt ++ junk⟩ : B) ∈ H)
theorem FrR.any {err X Y wi he : Int} {vals : List Nat} {v : Value} {H : HL} (h : FrR err X Y wi he vals v H) :
    ∃ (x y w h : Int) (A : Option Addr) (n c : Nat), v = .tuple #[.agg #[iv x, iv y, iv w, iv h, .slice A n c], iv err] ∧ FV err X Y wi he vals x y w h A n H := by
  rcases h with ⟨h1, g, cap, junk, rfl, rfl, h2, h3⟩ | ⟨h1, rfl, rfl⟩
  · subst h1
    exact ⟨_, _, _, _, _, _, _, rfl, .inr ⟨rfl, rfl, rfl, rfl, rfl, rfl, by omega, g, junk, rfl, List.Mem.head _⟩⟩
  · exact ⟨_, _, _, _, _, _, _, rfl, .inl ⟨h1, rfl, rfl, rfl, rfl, rfl⟩⟩
/-- the same, in a world -/
def FW (err X Y wi he : Int) (vals : List Nat) (x y w h : Int) (A : Option Addr) (n : Nat) (W : World) : Prop :=
  (err ≠ 0 ∧ x = 0 ∧ y = 0 ∧ w = 0 ∧ h = 0 ∧ n = 0) ∨ (err = 0 ∧ x = X ∧ y = Y ∧ w = wi ∧ h = he ∧ n = vals.length ∧ n ≤ maxLen ∧ FS W A vals)
theorem FS.at_ {W : World} {A : Option Addr} {xs : List Nat} (h : FS W A xs) (i : Nat) (hi : i < xs.length) : ∃ b o, A = some ⟨b, o, none⟩ ∧ W.cell? ⟨b, o + i, none⟩ = some (flt (xs.getD i 0)) := by
  obtain ⟨b, o, h1, h2⟩ := h (by omega)
  exact ⟨b, o, h1, h2 _ _ (by rw [List.getElem?_eq_getElem hi, getD_at])⟩

def thE (e : Int) (r r2 r3 : List Int) : Int := if e ≠ 0 then e else if r = r2 ∧ r = r3 then 0 else 5
def mixV (ys zs : List Nat) (t n : Nat) : List Nat := (List.range n).map fun i => cl (lerpV (ys.getD i 0) (zs.getD i 0) t)
def thrV (ys zs ms : List Nat) (n : Nat) : List Nat := (List.range n).map fun i => cl (lerpV (ys.getD i 0) (zs.getD i 0) (ms.getD (i / 4) 0))

/-- a matte brought to a region -/
def mofF (ms : List Nat) (i : Nat) : Nat := if 0 < ms.length then ms.getD (i % ms.length) 0 else 0
end Go.Proofs.Ytapcgokcfmklbaa

namespace Go.Proofs.Ytapcgokcfmklbaa
open Go Go.Proofs Go.RowKit

theorem gv {T T' : Rg} {e e' : Int} (h : T = T') (h2 : e = e') : Value.tuple #[.agg (rgc T).toArray, iv e] = Value.tuple #[.agg (rgc T').toArray, iv e'] := by subst h h2; rfl
def tErr (x y w h side : Int) : Int := if regErr x y w h ≠ 0 then regErr x y w h else if side < 1 ∨ 256 < side then 3 else 0
def tL (x y w h side : Int) : List Rg := if tErr x y w h side = 0 then rowsL x y w.toNat h.toNat side.toNat (cntI y h.toNat side.toNat) else []
end Go.Proofs.Ytapcgokcfmklbaa

namespace Go.Proofs.Ytapcgokcfmklbaa
open Go Go.RowKit

def mixL (N : Nat) (P : Nat → Bool) (f : Nat → Nat) (ys : List Nat) : List Nat := (List.range N).map fun i => if P i then f i else ys.getD i 0
/-- the i-th number stands in a rectangle of pixels (columns p .. p + w, rows q .. q + j), or is one of the first k of its row q + j -/
def inP (a p w q j k : Nat) (i : Nat) : Bool := decide ((q ≤ i / 4 / a ∧ i / 4 / a < q + j ∧ p ≤ i / 4 % a ∧ i / 4 % a < p + w) ∨ (i / 4 / a = q + j ∧ p ≤ i / 4 % a ∧ 4 * (i / 4 % a) + i % 4 < 4 * p + k))
/-- is a pixel in a region -/
def atB (x y X Y W H : Int) : Bool := decide (X ≤ x ∧ Y ≤ y ∧ x ≤ X + W - 1 ∧ y ≤ Y + H - 1)
/-- the frame with another one laid over it -/
def overV (ys zs : List Nat) (X Y : Int) (a b : Nat) (X2 Y2 : Int) (a2 b2 : Nat) : List Nat :=
  mixL (4 * (a * b)) (fun i => atB (X + ((i / 4 % a : Nat) : Int)) (Y + ((i / 4 / a : Nat) : Int)) X2 Y2 a2 b2) (madeF (pixF zs X2 Y2 a2 b2) X Y a) ys
/-- a pixel pasted -/
def pasteF (xs zs : List Nat) (X Y : Int) (a b : Nat) (X2 Y2 : Int) (a2 b2 : Nat) (x y : Int) (c : Nat) : Nat := if atB x y X2 Y2 a2 b2 then pixF zs X2 Y2 a2 b2 x y c else pixF xs X Y a b x y c
/-- where two frames meet -/
structure Meets (X Y : Int) (a b : Nat) (X2 Y2 : Int) (a2 b2 : Nat) (p q p2 q2 w h : Nat) : Prop where
  x : X + p = X2 + p2
  y : Y + q = Y2 + q2
  w1 : 1 ≤ w
  h1 : 1 ≤ h
  pa : p + w ≤ a
  pa2 : p2 + w ≤ a2
  qb : q + h ≤ b
  qb2 : q2 + h ≤ b2
  mx : max X X2 = X + p
  my : max Y Y2 = Y + q
  mw : min (X + a) (X2 + a2) = X + p + w
  mh : min (Y + b) (Y2 + b2) = Y + q + h
theorem apart {X Y X2 Y2 : Int} {a b a2 b2 : Nat} (h : cmB X Y a b X2 Y2 a2 b2 = false) : min (X + a) (X2 + a2) - max X X2 < 1 ∨ min (Y + b) (Y2 + b2) - max Y Y2 < 1 := by
  unfold cmB at h
  rw [Bool.and_eq_false_iff, decide_eq_false_iff_not, decide_eq_false_iff_not] at h
  unfold cmw at h
  omega
end Go.Proofs.Ytapcgokcfmklbaa

namespace Go.Proofs.Ytapcgokcfmklbaa
open Go Go.Proofs Go.RowKit

def atE (x y X Y : Int) (a b : Nat) : Int := if atB x y X Y a b then 0 else 5
def atQ (xs : List Nat) (x y X Y : Int) (a b : Nat) (c : Nat) : Nat := if atB x y X Y a b then cl (pixF xs X Y a b x y c) else 0
/-- a pixel, cleaned as far as k -/
def ckL (q : Nat → Nat) (k : Nat) : List Value := [flt (if 0 < k then cl (q 0) else q 0), flt (if 1 < k then cl (q 1) else q 1), flt (if 2 < k then cl (q 2) else q 2), flt (if 3 < k then cl (q 3) else q 3)]
/-- a frame of one pixel: its numbers -/
def fillV (q : Nat → Nat) (N : Nat) : List Nat := (List.range N).map fun i => cl (q (i % 4))
def putF (xs : List Nat) (q : Nat → Nat) (o : Nat) (i : Nat) : Nat := if o ≤ i ∧ i < o + 4 then q (i - o) else xs.getD i 0
def putV (xs : List Nat) (q : Nat → Nat) (X Y : Int) (a b : Nat) (x y : Int) : List Nat := overV (xs.map cl) (fillV q 4) X Y a b x y 1 1
def cutE (rx ry rw_ rh X Y a b : Int) : Int := if regErr rx ry rw_ rh ≠ 0 then regErr rx ry rw_ rh else if insB rx ry rw_ rh X Y a b then 0 else 5
def cutV (xs : List Nat) (X Y : Int) (a b : Nat) (rx ry rw_ rh : Int) : List Nat := madeV (pixF xs X Y a b) rx ry rw_.toNat (4 * (rw_.toNat * rh.toNat))
def pstE (X Y a b X2 Y2 a2 b2 : Int) : Int := if cmB X Y a b X2 Y2 a2 b2 then 0 else 5
def pstV (xs zs : List Nat) (X Y : Int) (a b : Nat) (X2 Y2 : Int) (a2 b2 : Nat) : List Nat := madeV (pasteF xs zs X Y a b X2 Y2 a2 b2) X Y a (4 * (a * b))
/-- are two frames the same -/
def sameB (x y wi he x' y' wi' he' : Int) (xs xs' : List Nat) : Bool := decide ([x, y, wi, he] = [x', y', wi', he'] ∧ xs.map cl = xs'.map cl)

end Go.Proofs.Ytapcgokcfmklbaa

namespace Go.Proofs.Ytapcgokcfmklbaa
open Go Go.Proofs Go.RowKit

theorem ty169 : tyChk Try.prog 169 = some ([.float .f32 0, .float .f32 0, .float .f32 0], true, 12) := by kernel_rfl
theorem ok79 : callOK Try.prog 79 = true := by kernel_rfl
theorem ok60 : callOK Try.prog 60 = true := by kernel_rfl
theorem ok116 : callOK Try.prog 116 = true := by kernel_rfl
theorem ok114 : callOK Try.prog 114 = true := by kernel_rfl
theorem ok109 : callOK Try.prog 109 = true := by kernel_rfl

set_option maxRecDepth 100000 in
theorem infinite (v : Nat) (W : World) : Fn_ Try.prog 114 #[flt v] W (fun v_ H => v_ = .bool (fcmpB .gtr v 2139095039 || fcmpB .lss v 4286578687) ∧ H = []) := by
  refine Fn_.intro Try.func114 rfl rfl (by rfl) ?_
  refine CS.seq ?_
  refine CS.region ?_
  refine RS.q rfl (QO.assign) ?_
  refine RS.nil ?_
  refine thenC_n ?_
  refine CS.seq ?_
  refine CS.region ?_
  refine RS.q rfl (QO.move) ?_
  refine RS.q rfl (QO.fcmp32 (by rfl) (by rfl) (by simp)) ?_
  refine RS.q rfl (QO.move) ?_
  refine RS.split (dj := 5) (by rfl) (fun hb0 => ?_) (fun hb0 => ?_)
  · refine RS.off (dj := 5) rfl (.inl (congrArg Value.bool hb0)) (fun _ => rfl) rfl ?_
    refine RS.off (dj := 5) rfl (.inl (congrArg Value.bool hb0)) (fun _ => rfl) rfl ?_
    refine RS.q rfl (QO.pickT (by rfl) hb0 (by rfl)) ?_
    refine RS.q rfl (QO.assign) ?_
    refine RS.nil ?_
    refine thenC_n ?_
    refine CS.ret ?_
    refine retQ.mk (H' := []) (.inr rfl) (RVs.tmp (by rfl) RVs.nil) (List.nil_sublist _) ?_
    exact ⟨congrArg Value.bool (by rw [hb0]; rfl), rfl⟩
  · refine RS.on (dj := 5) rfl (congrArg Value.bool hb0) ?_
    refine RS.q rfl (QO.move) ?_
    refine RS.on (dj := 5) rfl (congrArg Value.bool hb0) ?_
    refine RS.q rfl (QO.fcmp32 (by rfl) (by rfl) (by simp)) ?_
    refine RS.q rfl (QO.pickF (by rfl) hb0 (by rfl)) ?_
    refine RS.q rfl (QO.assign) ?_
    refine RS.nil ?_
    refine thenC_n ?_
    refine CS.ret ?_
    refine retQ.mk (H' := []) (.inr rfl) (RVs.tmp (by rfl) RVs.nil) (List.nil_sublist _) ?_
    exact ⟨congrArg Value.bool (by rw [hb0]; rfl), rfl⟩

set_option maxRecDepth 100000 in
theorem risNumber (v : Nat) (W : World) : Fn_ Try.prog 60 #[flt v] W (fun v_ H => v_ = .bool (numB v) ∧ H = []) := by
  refine Fn_.intro Try.func60 rfl rfl (by rfl) ?_
  refine CS.seq ?_
  refine CS.region ?_
  refine RS.q rfl (QO.assign) ?_
  refine RS.nil ?_
  refine thenC_n ?_
  refine CS.seq ?_
  refine CS.region ?_
  refine RS.q rfl (QO.move) ?_
  refine RS.q rfl (QO.move) ?_
  refine RS.farith rfl (by rfl) (by rfl) (by simp) ?_
  intro r5 hr5
  refine RS.q rfl (QO.fcmp32 (by rfl) (by rfl) (by simp)) ?_
  refine RS.q rfl (QO.assign) ?_
  refine RS.nil ?_
  refine thenC_n ?_
  refine CS.ret ?_
  refine retQ.mk (H' := []) (.inr rfl) (RVs.tmp (by rfl) RVs.nil) (List.nil_sublist _) ?_
  exact ⟨congrArg Value.bool (isnum_2 hr5), rfl⟩

set_option maxRecDepth 100000 in
theorem luma_ (u q : Nat → Nat) (W : World) : Fn_ Try.prog 109 #[.agg #[flt (u 0), flt (u 1), flt (u 2)], pxv q] W (fun v H => v = flt (lumaV u q) ∧ H = []) := by
  refine Fn_.intro Try.func109 rfl rfl (by rfl) ?_
  refine CS.seq ?_
  refine CS.region ?_
  refine RS.box rfl (by rfl) (by rfl) ?_
  intro g2
  refine RS.box rfl (by rfl) (by rfl) ?_
  intro g3
  refine RS.q rfl (QO.assign) ?_
  refine RS.nil ?_
  refine thenC_n ?_
  refine CS.seq ?_
  refine CS.region ?_
  first | (refine RS.q rfl (QO.idxArr0 Try.underlying169 ty29 (by rfl) (by rfl) (by rfl) (by omega)) ?_) | (refine RS.q rfl (QO.idxArrn Try.underlying169 ty29 (by rfl) (by rfl) (by rfl) (by omega)) ?_) | (refine RS.q rfl (QO.idxArr Try.underlying169 ty29 (by rfl) (by rfl) (by omega) (by omega)) ?_)
  first | (refine RS.q rfl (QO.load ty29 (by rfl) (by repeat (first | exact List.Mem.head _ | refine List.Mem.tail _ ?_)) (by rfl)) ?_) | (refine RS.q rfl (QO.loadO ty29 (by rfl) (by assumption)) ?_) | (refine RS.q rfl (QO.load ty29 (by rfl) (by repeat (first | exact List.Mem.head _ | refine List.Mem.tail _ ?_)) (by assumption)) ?_)
  first | (refine RS.q rfl (QO.idxArr0 Try.underlying172 ty29 (by rfl) (by rfl) (by rfl) (by omega)) ?_) | (refine RS.q rfl (QO.idxArrn Try.underlying172 ty29 (by rfl) (by rfl) (by rfl) (by omega)) ?_) | (refine RS.q rfl (QO.idxArr Try.underlying172 ty29 (by rfl) (by rfl) (by omega) (by omega)) ?_)
  first | (refine RS.q rfl (QO.load ty29 (by rfl) (by repeat (first | exact List.Mem.head _ | refine List.Mem.tail _ ?_)) (by rfl)) ?_) | (refine RS.q rfl (QO.loadO ty29 (by rfl) (by assumption)) ?_) | (refine RS.q rfl (QO.load ty29 (by rfl) (by repeat (first | exact List.Mem.head _ | refine List.Mem.tail _ ?_)) (by assumption)) ?_)
  refine RS.farith rfl (by rfl) (by rfl) (by simp) ?_
  intro r9 hr9
  first | (refine RS.q rfl (QO.idxArr0 Try.underlying169 ty29 (by rfl) (by rfl) (by rfl) (by omega)) ?_) | (refine RS.q rfl (QO.idxArrn Try.underlying169 ty29 (by rfl) (by rfl) (by rfl) (by omega)) ?_) | (refine RS.q rfl (QO.idxArr Try.underlying169 ty29 (by rfl) (by rfl) (by omega) (by omega)) ?_)
  first | (refine RS.q rfl (QO.load ty29 (by rfl) (by repeat (first | exact List.Mem.head _ | refine List.Mem.tail _ ?_)) (by rfl)) ?_) | (refine RS.q rfl (QO.loadO ty29 (by rfl) (by assumption)) ?_) | (refine RS.q rfl (QO.load ty29 (by rfl) (by repeat (first | exact List.Mem.head _ | refine List.Mem.tail _ ?_)) (by assumption)) ?_)
  first | (refine RS.q rfl (QO.idxArr0 Try.underlying172 ty29 (by rfl) (by rfl) (by rfl) (by omega)) ?_) | (refine RS.q rfl (QO.idxArrn Try.underlying172 ty29 (by rfl) (by rfl) (by rfl) (by omega)) ?_) | (refine RS.q rfl (QO.idxArr Try.underlying172 ty29 (by rfl) (by rfl) (by omega) (by omega)) ?_)
  first | (refine RS.q rfl (QO.load ty29 (by rfl) (by repeat (first | exact List.Mem.head _ | refine List.Mem.tail _ ?_)) (by rfl)) ?_) | (refine RS.q rfl (QO.loadO ty29 (by rfl) (by assumption)) ?_) | (refine RS.q rfl (QO.load ty29 (by rfl) (by repeat (first | exact List.Mem.head _ | refine List.Mem.tail _ ?_)) (by assumption)) ?_)
  refine RS.farith rfl (by rfl) (by rfl) (by simp) ?_
  intro r14 hr14
  refine RS.farith rfl (by rfl) (by rfl) (by simp) ?_
  intro r15 hr15
  first | (refine RS.q rfl (QO.idxArr0 Try.underlying169 ty29 (by rfl) (by rfl) (by rfl) (by omega)) ?_) | (refine RS.q rfl (QO.idxArrn Try.underlying169 ty29 (by rfl) (by rfl) (by rfl) (by omega)) ?_) | (refine RS.q rfl (QO.idxArr Try.underlying169 ty29 (by rfl) (by rfl) (by omega) (by omega)) ?_)
  first | (refine RS.q rfl (QO.load ty29 (by rfl) (by repeat (first | exact List.Mem.head _ | refine List.Mem.tail _ ?_)) (by rfl)) ?_) | (refine RS.q rfl (QO.loadO ty29 (by rfl) (by assumption)) ?_) | (refine RS.q rfl (QO.load ty29 (by rfl) (by repeat (first | exact List.Mem.head _ | refine List.Mem.tail _ ?_)) (by assumption)) ?_)
  first | (refine RS.q rfl (QO.idxArr0 Try.underlying172 ty29 (by rfl) (by rfl) (by rfl) (by omega)) ?_) | (refine RS.q rfl (QO.idxArrn Try.underlying172 ty29 (by rfl) (by rfl) (by rfl) (by omega)) ?_) | (refine RS.q rfl (QO.idxArr Try.underlying172 ty29 (by rfl) (by rfl) (by omega) (by omega)) ?_)
  first | (refine RS.q rfl (QO.load ty29 (by rfl) (by repeat (first | exact List.Mem.head _ | refine List.Mem.tail _ ?_)) (by rfl)) ?_) | (refine RS.q rfl (QO.loadO ty29 (by rfl) (by assumption)) ?_) | (refine RS.q rfl (QO.load ty29 (by rfl) (by repeat (first | exact List.Mem.head _ | refine List.Mem.tail _ ?_)) (by assumption)) ?_)
  refine RS.farith rfl (by rfl) (by rfl) (by simp) ?_
  intro r20 hr20
  refine RS.farith rfl (by rfl) (by rfl) (by simp) ?_
  intro r21 hr21
  refine RS.call rfl (by rfl) ok57 (by rfl) (fun w ho => clean _ _) ?_
  rintro _ _ ⟨rfl, rfl⟩
  refine RS.q rfl (QO.assign) ?_
  refine RS.nil ?_
  refine thenC_n ?_
  refine CS.ret ?_
  refine retQ.mk (H' := []) (.inr rfl) (RVs.tmp (by rfl) RVs.nil) (List.nil_sublist _) ?_
  exact ⟨congrArg flt (luma_of hr9 hr14 hr15 hr20 hr21), rfl⟩

set_option maxRecDepth 100000 in
theorem rluma (u q : Nat → Nat) (W : World) : Fn_ Try.prog 116 #[.agg #[flt (u 0), flt (u 1), flt (u 2)], pxv q] W (fun v H => v = flt (lumaV u q) ∧ H = []) := by
  refine Fn_.intro Try.func116 rfl rfl (by rfl) ?_
  refine CS.seq ?_
  refine CS.region ?_
  refine RS.box rfl (by rfl) (by rfl) ?_
  intro g2
  refine RS.box rfl (by rfl) (by rfl) ?_
  intro g3
  refine RS.q rfl (QO.assign) ?_
  refine RS.nil ?_
  refine thenC_n ?_
  refine CS.seq ?_
  refine CS.region ?_
  first | (refine RS.q rfl (QO.idxArr0 Try.underlying169 ty29 (by rfl) (by rfl) (by rfl) (by omega)) ?_) | (refine RS.q rfl (QO.idxArrn Try.underlying169 ty29 (by rfl) (by rfl) (by rfl) (by omega)) ?_) | (refine RS.q rfl (QO.idxArr Try.underlying169 ty29 (by rfl) (by rfl) (by omega) (by omega)) ?_)
  first | (refine RS.q rfl (QO.load ty29 (by rfl) (by repeat (first | exact List.Mem.head _ | refine List.Mem.tail _ ?_)) (by rfl)) ?_) | (refine RS.q rfl (QO.loadO ty29 (by rfl) (by assumption)) ?_) | (refine RS.q rfl (QO.load ty29 (by rfl) (by repeat (first | exact List.Mem.head _ | refine List.Mem.tail _ ?_)) (by assumption)) ?_)
  first | (refine RS.q rfl (QO.idxArr0 Try.underlying172 ty29 (by rfl) (by rfl) (by rfl) (by omega)) ?_) | (refine RS.q rfl (QO.idxArrn Try.underlying172 ty29 (by rfl) (by rfl) (by rfl) (by omega)) ?_) | (refine RS.q rfl (QO.idxArr Try.underlying172 ty29 (by rfl) (by rfl) (by omega) (by omega)) ?_)
  first | (refine RS.q rfl (QO.load ty29 (by rfl) (by repeat (first | exact List.Mem.head _ | refine List.Mem.tail _ ?_)) (by rfl)) ?_) | (refine RS.q rfl (QO.loadO ty29 (by rfl) (by assumption)) ?_) | (refine RS.q rfl (QO.load ty29 (by rfl) (by repeat (first | exact List.Mem.head _ | refine List.Mem.tail _ ?_)) (by assumption)) ?_)
  refine RS.farith rfl (by rfl) (by rfl) (by simp) ?_
  intro r9 hr9
  first | (refine RS.q rfl (QO.idxArr0 Try.underlying169 ty29 (by rfl) (by rfl) (by rfl) (by omega)) ?_) | (refine RS.q rfl (QO.idxArrn Try.underlying169 ty29 (by rfl) (by rfl) (by rfl) (by omega)) ?_) | (refine RS.q rfl (QO.idxArr Try.underlying169 ty29 (by rfl) (by rfl) (by omega) (by omega)) ?_)
  first | (refine RS.q rfl (QO.load ty29 (by rfl) (by repeat (first | exact List.Mem.head _ | refine List.Mem.tail _ ?_)) (by rfl)) ?_) | (refine RS.q rfl (QO.loadO ty29 (by rfl) (by assumption)) ?_) | (refine RS.q rfl (QO.load ty29 (by rfl) (by repeat (first | exact List.Mem.head _ | refine List.Mem.tail _ ?_)) (by assumption)) ?_)
  first | (refine RS.q rfl (QO.idxArr0 Try.underlying172 ty29 (by rfl) (by rfl) (by rfl) (by omega)) ?_) | (refine RS.q rfl (QO.idxArrn Try.underlying172 ty29 (by rfl) (by rfl) (by rfl) (by omega)) ?_) | (refine RS.q rfl (QO.idxArr Try.underlying172 ty29 (by rfl) (by rfl) (by omega) (by omega)) ?_)
  first | (refine RS.q rfl (QO.load ty29 (by rfl) (by repeat (first | exact List.Mem.head _ | refine List.Mem.tail _ ?_)) (by rfl)) ?_) | (refine RS.q rfl (QO.loadO ty29 (by rfl) (by assumption)) ?_) | (refine RS.q rfl (QO.load ty29 (by rfl) (by repeat (first | exact List.Mem.head _ | refine List.Mem.tail _ ?_)) (by assumption)) ?_)
  refine RS.farith rfl (by rfl) (by rfl) (by simp) ?_
  intro r14 hr14
  refine RS.farith rfl (by rfl) (by rfl) (by simp) ?_
  intro r15 hr15
  first | (refine RS.q rfl (QO.idxArr0 Try.underlying169 ty29 (by rfl) (by rfl) (by rfl) (by omega)) ?_) | (refine RS.q rfl (QO.idxArrn Try.underlying169 ty29 (by rfl) (by rfl) (by rfl) (by omega)) ?_) | (refine RS.q rfl (QO.idxArr Try.underlying169 ty29 (by rfl) (by rfl) (by omega) (by omega)) ?_)
  first | (refine RS.q rfl (QO.load ty29 (by rfl) (by repeat (first | exact List.Mem.head _ | refine List.Mem.tail _ ?_)) (by rfl)) ?_) | (refine RS.q rfl (QO.loadO ty29 (by rfl) (by assumption)) ?_) | (refine RS.q rfl (QO.load ty29 (by rfl) (by repeat (first | exact List.Mem.head _ | refine List.Mem.tail _ ?_)) (by assumption)) ?_)
  first | (refine RS.q rfl (QO.idxArr0 Try.underlying172 ty29 (by rfl) (by rfl) (by rfl) (by omega)) ?_) | (refine RS.q rfl (QO.idxArrn Try.underlying172 ty29 (by rfl) (by rfl) (by rfl) (by omega)) ?_) | (refine RS.q rfl (QO.idxArr Try.underlying172 ty29 (by rfl) (by rfl) (by omega) (by omega)) ?_)
  first | (refine RS.q rfl (QO.load ty29 (by rfl) (by repeat (first | exact List.Mem.head _ | refine List.Mem.tail _ ?_)) (by rfl)) ?_) | (refine RS.q rfl (QO.loadO ty29 (by rfl) (by assumption)) ?_) | (refine RS.q rfl (QO.load ty29 (by rfl) (by repeat (first | exact List.Mem.head _ | refine List.Mem.tail _ ?_)) (by assumption)) ?_)
  refine RS.farith rfl (by rfl) (by rfl) (by simp) ?_
  intro r20 hr20
  refine RS.farith rfl (by rfl) (by rfl) (by simp) ?_
  intro r21 hr21
  refine RS.call rfl (by rfl) ok82 (by rfl) (fun w ho => fix _ _) ?_
  rintro _ _ ⟨rfl, rfl⟩
  refine RS.q rfl (QO.assign) ?_
  refine RS.nil ?_
  refine thenC_n ?_
  refine CS.ret ?_
  refine retQ.mk (H' := []) (.inr rfl) (RVs.tmp (by rfl) RVs.nil) (List.nil_sublist _) ?_
  exact ⟨congrArg flt (luma_of hr9 hr14 hr15 hr20 hr21), rfl⟩

set_option maxRecDepth 100000 in
theorem conv_ (n : Int) (W : World) : Fn_ Try.prog 79 #[iv n] W (fun v H => v = flt (cvF n) ∧ H = []) := by
  refine Fn_.intro Try.func79 rfl rfl (by rfl) ?_
  refine CS.seq ?_
  refine CS.region ?_
  refine RS.q rfl (QO.assign) ?_
  refine RS.nil ?_
  refine thenC_n ?_
  refine CS.seq ?_
  refine CS.region ?_
  refine RS.q rfl (QO.move) ?_
  refine RS.q rfl (QO.conv_i64_f32 Try.underlying3 Try.underlying29 (by rfl)) ?_
  refine RS.q rfl (QO.assign) ?_
  refine RS.nil ?_
  refine thenC_n ?_
  refine CS.ret ?_
  refine retQ.mk (H' := []) (.inr rfl) (RVs.tmp (by rfl) RVs.nil) (List.nil_sublist _) ?_
  exact ⟨rfl, rfl⟩

end Go.Proofs.Ytapcgokcfmklbaa

namespace Go.Proofs.Ytapcgokcfmklbaa
open Go Go.Proofs Go.RowKit

theorem ok110 : callOK Try.prog 110 = true := by kernel_rfl
theorem ok117 : callOK Try.prog 117 = true := by kernel_rfl

/-- luma's weights -/
def wtsV (k : Nat) : Nat := if k = 0 then 1046066128 else if k = 1 then 1060575065 else 1033100696
/-- the k-th value of a channel -/
def chanV (xs : List Nat) (ch : Int) (k : Nat) : Nat := if ch = 4 then lumaV wtsV (fun c => xs.getD (4 * k + c) 0) else cl (xs.getD (4 * k + ch.toNat) 0)
theorem chanV_pl {xs : List Nat} {ch : Int} (h0 : 0 ≤ ch) (h3 : ch ≤ 3) (m : Nat) : planeV xs ch m = (List.range m).map (chanV xs ch) := by
  unfold planeV
  refine List.map_congr_left fun k _ => ?_
  unfold planeF chanV
  rw [if_neg (by omega)]
  congr 2; omega
theorem chanV_lu {xs : List Nat} {k : Nat} : lumaV wtsV (fun c => xs.getD (4 * k + c) 0) = chanV xs 4 k := (if_pos rfl).symm

set_option maxRecDepth 100000 in
theorem weights_ (W : World) : Fn_ Try.prog 110 #[] W (fun v H => v = .agg #[flt (wtsV 0), flt (wtsV 1), flt (wtsV 2)] ∧ H = []) := by
  refine Fn_.intro Try.func110 rfl rfl (by rfl) ?_
  refine CS.seq ?_
  refine CS.region ?_
  refine RS.alloc rfl ty169 ?_
  intro g0
  refine RS.nil ?_
  refine thenC_n ?_
  refine CS.seq ?_
  refine CS.region ?_
  refine RS.q rfl (QO.buildA Try.underlying169 ty169 ty29 (by rfl)) ?_
  first | refine RS.storeB ty169 (by rfl) (by rfl) (by rfl) (by rfl) (by rfl) (by repeat (first | exact Upd.head | apply Upd.tail)) (by rfl) ?_ | refine RS.storeP ty169 (by rfl) (by rfl) (by rfl) (by rfl) (by rfl) (by repeat (first | exact Upd.head | apply Upd.tail)) (by rfl) ?_
  refine RS.nil ?_
  refine thenC_n ?_
  refine CS.ret ?_
  refine retQ.mk (H' := []) (.inr rfl) (RVs.cellA ty169 (by rfl) (by repeat (first | exact List.Mem.head _ | refine List.Mem.tail _ ?_)) (by rfl) RVs.nil) (List.nil_sublist _) ?_
  exact ⟨rfl, rfl⟩

theorem planeBad (x y wi he : Int) (A : Option Addr) (n c : Nat) (xs : List Nat) (ch : Int) (W : World) (hn : xs.length = n) (hA : FS W A xs) (hfr : frErr x y wi he n = 0) (hch : ch < 0 ∨ 3 < ch) : Fn_ Try.prog 108 #[.agg #[iv x, iv y, iv wi, iv he, .slice A n c], iv ch] W (fun v H => v = .tuple #[.slice none 0 0, iv 3] ∧ H = []) := by
  subst hn
  refine (plane x y wi he A _ c xs ch W rfl hA).mono fun v H h => ?_
  rcases h with ⟨h1, _⟩ | ⟨_, _, h2, h3⟩ | ⟨_, h2, h3, _⟩
  · exact absurd hfr h1
  · exact ⟨h2, h3⟩
  · omega
theorem planeOk (x y : Int) (a b : Nat) (A : Option Addr) (n c : Nat) (xs : List Nat) (ch : Int) (W : World) (hn : xs.length = n) (hA : FS W A xs) (hfr : frErr x y (a : Int) (b : Int) n = 0) (h0 : 0 ≤ ch) (h3 : ch ≤ 3) : Fn_ Try.prog 108 #[.agg #[iv x, iv y, iv (a : Int), iv (b : Int), .slice A n c], iv ch] W (fun v H => ∃ g, v = .tuple #[.slice (some ⟨g, 0, none⟩) (a * b) (a * b), iv 0] ∧ H = [⟨g, 29, ((List.range (a * b)).map (chanV xs ch)).map flt⟩]) := by
  subst hn
  refine (plane x y (a : Int) (b : Int) A _ c xs ch W rfl hA).mono fun v H h => ?_
  have e : ((a : Int) * (b : Int)).toNat = a * b := by rw [← Int.natCast_mul]; rfl
  rcases h with ⟨h1, _⟩ | ⟨_, h2, _⟩ | ⟨_, _, _, g, h4, h5⟩
  · exact absurd hfr h1
  · omega
  · rw [e] at h4
    rw [e, chanV_pl h0 h3] at h5
    exact ⟨g, h4, h5⟩

set_option maxRecDepth 100000 in
theorem valsBad (X Y : Int) (a b : Nat) (A : Option Addr) (n c : Nat) (xs : List Nat) (ch : Int) (W : World) (hn : xs.length = n) (hA : FS W A xs) (hfr : frErr X Y (a : Int) (b : Int) n = 0) (hch : ¬ (0 ≤ ch ∧ ch ≤ 4)) : Fn_ Try.prog 50 #[.agg #[iv X, iv Y, iv (a : Int), iv (b : Int), .slice A n c], iv ch] W (fun v H => v = .tuple #[.slice none 0 0, iv 3] ∧ H = []) := by
  refine Fn_.intro Try.func50 rfl rfl (by rfl) ?_
  refine CS.seq ?_
  refine CS.region ?_
  refine RS.box rfl (by rfl) (by rfl) ?_
  intro g2
  refine RS.q rfl (QO.assign) ?_
  refine RS.q rfl (QO.assign) ?_
  refine RS.nil ?_
  refine thenC_n ?_
  refine CS.seq ?_
  refine CS.seq ?_
  refine CS.region ?_
  refine RS.q rfl (QO.move) ?_
  refine RS.qv rfl (QO.neq (by rfl) (by rfl)) (congrArg Value.bool (show (ch != 4) = true from bne_iff_ne.2 (by omega))) ?_
  refine RS.nil ?_
  refine thenC_n ?_
  refine CS.condT (by rfl) rfl ?_
  refine CS.seq ?_
  refine CS.region ?_
  first | (refine RS.q rfl (QO.loadB ty26 (by rfl) (by repeat (first | exact List.Mem.head _ | refine List.Mem.tail _ ?_)) (by rfl)) ?_) | (refine RS.q rfl (QO.loadA ty26 (by rfl) (by repeat (first | exact List.Mem.head _ | refine List.Mem.tail _ ?_)) (by rfl) (by rfl)) ?_) | (refine RS.q rfl (QO.loadOA ty26 (by rfl) (by assumption) (by rfl)) ?_)
  refine RS.q rfl (QO.move) ?_
  refine RS.call rfl (by rfl) ok108 (by rfl) (fun w ho => planeBad X Y (a : Int) (b : Int) A n c xs ch _ hn (hA.own ho) hfr (by omega)) ?_
  rintro _ _ ⟨rfl, rfl⟩
  refine RS.q rfl (QO.extract (by rfl) (by rfl)) ?_
  refine RS.q rfl (QO.extract (by rfl) (by rfl)) ?_
  refine RS.q rfl (QO.assign) ?_
  refine RS.q rfl (QO.assign) ?_
  refine RS.nil ?_
  refine thenC_n ?_
  refine CS.ret ?_
  refine thenC_r ?_
  refine retQ.mk (H' := []) (.inr rfl) (RVs.tmp (by rfl) (RVs.tmp (by rfl) RVs.nil)) (List.nil_sublist _) ?_
  exact ⟨rfl, rfl⟩

set_option maxRecDepth 100000 in
theorem valsPl (X Y : Int) (a b : Nat) (A : Option Addr) (n c : Nat) (xs : List Nat) (ch : Int) (W : World) (hn : xs.length = n) (hA : FS W A xs) (hfr : frErr X Y (a : Int) (b : Int) n = 0) (h0 : 0 ≤ ch) (h3 : ch ≤ 3) : Fn_ Try.prog 50 #[.agg #[iv X, iv Y, iv (a : Int), iv (b : Int), .slice A n c], iv ch] W (fun v H => ∃ g, v = .tuple #[.slice (some ⟨g, 0, none⟩) (a * b) (a * b), iv 0] ∧ H = [⟨g, 29, ((List.range (a * b)).map (chanV xs ch)).map flt⟩]) := by
  refine Fn_.intro Try.func50 rfl rfl (by rfl) ?_
  refine CS.seq ?_
  refine CS.region ?_
  refine RS.box rfl (by rfl) (by rfl) ?_
  intro g2
  refine RS.q rfl (QO.assign) ?_
  refine RS.q rfl (QO.assign) ?_
  refine RS.nil ?_
  refine thenC_n ?_
  refine CS.seq ?_
  refine CS.seq ?_
  refine CS.region ?_
  refine RS.q rfl (QO.move) ?_
  refine RS.qv rfl (QO.neq (by rfl) (by rfl)) (congrArg Value.bool (show (ch != 4) = true from bne_iff_ne.2 (by omega))) ?_
  refine RS.nil ?_
  refine thenC_n ?_
  refine CS.condT (by rfl) rfl ?_
  refine CS.seq ?_
  refine CS.region ?_
  first | (refine RS.q rfl (QO.loadB ty26 (by rfl) (by repeat (first | exact List.Mem.head _ | refine List.Mem.tail _ ?_)) (by rfl)) ?_) | (refine RS.q rfl (QO.loadA ty26 (by rfl) (by repeat (first | exact List.Mem.head _ | refine List.Mem.tail _ ?_)) (by rfl) (by rfl)) ?_) | (refine RS.q rfl (QO.loadOA ty26 (by rfl) (by assumption) (by rfl)) ?_)
  refine RS.q rfl (QO.move) ?_
  refine RS.call rfl (by rfl) ok108 (by rfl) (fun w ho => planeOk X Y a b A n c xs ch _ hn (hA.own ho) hfr h0 h3) ?_
  rintro _ _ ⟨gp, rfl, rfl⟩
  refine RS.q rfl (QO.extract (by rfl) (by rfl)) ?_
  refine RS.q rfl (QO.extract (by rfl) (by rfl)) ?_
  refine RS.q rfl (QO.assign) ?_
  refine RS.q rfl (QO.assign) ?_
  refine RS.nil ?_
  refine thenC_n ?_
  refine CS.ret ?_
  refine thenC_r ?_
  refine retQ.mk (H' := [⟨gp, 29, ((List.range (a * b)).map (chanV xs ch)).map flt⟩]) (.inr rfl) (RVs.tmp (by rfl) (RVs.tmp (by rfl) RVs.nil)) (by repeat (first | exact List.Sublist.refl _ | exact List.nil_sublist _ | refine List.Sublist.cons_cons _ ?_ | refine List.Sublist.cons _ ?_ | exact Sbp.refl | exact Sbp.nil | refine Sbp.cons (by repeat (first | exact Rem.head | apply Rem.tail)) ?_ | exact Sbp.app | refine Sbp.skip ?_ | exact List.sublist_append_left _ _ | exact List.sublist_append_right _ _)) ?_
  exact ⟨gp, rfl, rfl⟩

theorem cutAt_1 {g o k c : Nat} (h : 4 * k < c) : Value.slice (cutAt g o (4 * (k : Int)).toNat c 1) ((4 * (k : Int) + 4).toNat - (4 * (k : Int)).toNat) (c - (4 * (k : Int)).toNat) = Value.slice (some ⟨g, o + 4 * k, none⟩) 4 (c - 4 * k) := by
  have e1 : (4 * (k : Int)).toNat = 4 * k := by omega
  have e2 : (4 * (k : Int) + 4).toNat = 4 * k + 4 := by omega
  rw [e1, e2]
  unfold cutAt
  first | (rw [if_pos (by omega), Nat.mul_one]; congr 1; omega) | (rw [if_neg (by omega), Nat.mul_one]; congr 1; omega)
theorem px_cells {W : World} {xs : List Nat} {bA oA k : Nat} (h : 4 * k + 4 ≤ xs.length) (hc : ∀ i x, xs[i]? = some x → W.cell? ⟨bA, oA + i, none⟩ = some (flt x)) : ∀ j v, ([flt (xs.getD (4 * k + 0) 0), flt (xs.getD (4 * k + 1) 0), flt (xs.getD (4 * k + 2) 0), flt (xs.getD (4 * k + 3) 0)] : List Value)[j]? = some v → W.cell? ((⟨bA, oA + 4 * k, none⟩ : Addr).add j) = some v := fun j v hj => by
  have hj4 : j < 4 := (List.getElem?_eq_some_iff.1 hj).1
  have key : ∀ cc, cc < 4 → W.cell? ((⟨bA, oA + 4 * k, none⟩ : Addr).add cc) = some (flt (xs.getD (4 * k + cc) 0)) := fun cc hcc => by
    rw [addr_add, show oA + 4 * k + cc = oA + (4 * k + cc) by omega]
    refine hc _ _ ?_
    rw [List.getD_eq_getElem?_getD, List.getElem?_eq_getElem (by omega)]; rfl
  match j, hj4 with
  | 0, _ => rw [key 0 (by omega)]; exact hj
  | 1, _ => rw [key 1 (by omega)]; exact hj
  | 2, _ => rw [key 2 (by omega)]; exact hj
  | 3, _ => rw [key 3 (by omega)]; exact hj

set_option maxHeartbeats 4000000 in
set_option maxRecDepth 100000 in
theorem valsLu (X Y : Int) (a b : Nat) (A : Option Addr) (n c : Nat) (xs : List Nat) (W : World) (hn : xs.length = n) (hA : FS W A xs) (hfr : frErr X Y (a : Int) (b : Int) n = 0) (hN : n = 4 * (a * b)) (hc : n ≤ c) (hcm : c ≤ maxLen) (ha : 1 ≤ a ∧ a ≤ 256) (hb : 1 ≤ b ∧ b ≤ 256) : Fn_ Try.prog 50 #[.agg #[iv X, iv Y, iv (a : Int), iv (b : Int), .slice A n c], iv 4] W (fun v H => ∃ g, v = .tuple #[.slice (some ⟨g, 0, none⟩) (a * b) (a * b), iv 0] ∧ H = [⟨g, 29, ((List.range (a * b)).map (chanV xs 4)).map flt⟩]) := by
  have hpos := Nat.mul_le_mul ha.1 hb.1
  have hup := Nat.mul_le_mul ha.2 hb.2
  have hcast : ((a * b : Nat) : Int) = (a : Int) * (b : Int) := Int.natCast_mul ..
  have hcm2 : c ≤ 9223372036854775807 := hcm
  refine Fn_.intro Try.func50 rfl rfl (by rfl) ?_
  refine CS.seq ?_
  refine CS.region ?_
  refine RS.box rfl (by rfl) (by rfl) ?_
  intro g2
  refine RS.q rfl (QO.assign) ?_
  refine RS.q rfl (QO.assign) ?_
  refine RS.nil ?_
  refine thenC_n ?_
  refine CS.seq ?_
  refine CS.seq ?_
  refine CS.region ?_
  refine RS.q rfl (QO.move) ?_
  refine RS.qv rfl (QO.neq (by rfl) (by rfl)) (congrArg Value.bool (show ((4 : Int) != 4) = false from by decide)) ?_
  refine RS.nil ?_
  refine thenC_n ?_
  refine CS.condF (by rfl) rfl ?_
  refine CS.skip ?_
  refine thenC_n ?_
  refine CS.seq ?_
  refine CS.seq ?_
  refine CS.region ?_
  first | (refine RS.q rfl (QO.loadB ty26 (by rfl) (by repeat (first | exact List.Mem.head _ | refine List.Mem.tail _ ?_)) (by rfl)) ?_) | (refine RS.q rfl (QO.loadA ty26 (by rfl) (by repeat (first | exact List.Mem.head _ | refine List.Mem.tail _ ?_)) (by rfl) (by rfl)) ?_) | (refine RS.q rfl (QO.loadOA ty26 (by rfl) (by assumption) (by rfl)) ?_)
  refine RS.call rfl (by rfl) ok58 (by rfl) (fun w ho => check X Y (a : Int) (b : Int) A n c _) ?_
  rintro _ _ ⟨rfl, rfl⟩
  refine RS.q rfl (QO.assign) ?_
  refine RS.nil ?_
  refine thenC_n ?_
  refine CS.seq ?_
  refine CS.region ?_
  refine RS.q rfl (QO.move) ?_
  refine RS.qv rfl (QO.neq (by rfl) (by rfl)) (congrArg Value.bool (show (frErr X Y (a : Int) (b : Int) n != 0) = false from by rw [hfr]; rfl)) ?_
  refine RS.nil ?_
  refine thenC_n ?_
  refine CS.condF (by rfl) rfl ?_
  refine CS.skip ?_
  refine thenC_n ?_
  refine CS.seq ?_
  refine CS.region ?_
  refine RS.q rfl (QO.fieldAddr fo26_0 (by rfl)) ?_
  refine RS.q rfl (QO.fieldAddr fo23_2 (by rfl)) ?_
  first | (refine RS.q rfl (QO.load ty3 (by rfl) (by repeat (first | exact List.Mem.head _ | refine List.Mem.tail _ ?_)) (by rfl)) ?_) | (refine RS.q rfl (QO.loadO ty3 (by rfl) (by assumption)) ?_) | (refine RS.q rfl (QO.load ty3 (by rfl) (by repeat (first | exact List.Mem.head _ | refine List.Mem.tail _ ?_)) (by assumption)) ?_)
  refine RS.q rfl (QO.fieldAddr fo26_0 (by rfl)) ?_
  refine RS.q rfl (QO.fieldAddr fo23_3 (by rfl)) ?_
  first | (refine RS.q rfl (QO.load ty3 (by rfl) (by repeat (first | exact List.Mem.head _ | refine List.Mem.tail _ ?_)) (by rfl)) ?_) | (refine RS.q rfl (QO.loadO ty3 (by rfl) (by assumption)) ?_) | (refine RS.q rfl (QO.load ty3 (by rfl) (by repeat (first | exact List.Mem.head _ | refine List.Mem.tail _ ?_)) (by assumption)) ?_)
  first | (refine RS.qv rfl (QO.mul (by rfl) (by rfl) (by omega) (by omega)) (congrArg iv hcast.symm) ?_) | (refine RS.qv rfl (QO.ibin (by rfl) (by rfl) trivial) (congrArg iv hcast.symm) ?_)
  refine RS.make rfl Try.underlying24 ty29 (by rfl) (by rfl) (by omega) (by omega) (by omega) (by omega) ?_
  intro g28
  refine RS.q rfl (QO.assign) ?_
  refine RS.nil ?_
  refine thenC_n ?_
  refine CS.seq ?_
  refine CS.seq ?_
  refine CS.region ?_
  refine RS.q rfl (QO.move) ?_
  refine RS.q rfl (QO.lenS Try.underlying24 (by rfl)) ?_
  refine RS.q rfl (QO.move) ?_
  refine RS.nil ?_
  refine thenC_n ?_
  refine CS.block ?_
  refine CS.loop (X := Nat) (8 :: 31 :: 32 :: 33 :: 34 :: 35 :: 36 :: 37 :: 38 :: 39 :: 40 :: 41 :: 42 :: 43 :: 44 :: 45 :: 46 :: 47 :: 48 :: 49 :: []) (fun k => [(31, iv (k : Int))]) (fun k => [⟨g28, 29, partL (chanV xs 4) (a * b) k⟩, ⟨g2, 26, [iv X, iv Y, iv (a : Int), iv (b : Int), .slice A n c]⟩]) (fun k => k ≤ a * b) (fun k => a * b - k) 0 (Nat.zero_le _) ?_ ?_ ?_
  · exact (by repeat (first | exact kn_nil | refine kn_cons (by rfl) ?_))
  · exact (by rw [partL_zero]; exact (by repeat (first | exact List.Sublist.refl _ | exact List.nil_sublist _ | refine List.Sublist.cons_cons _ ?_ | refine List.Sublist.cons _ ?_ | exact Sbp.refl | exact Sbp.nil | refine Sbp.cons (by repeat (first | exact Rem.head | apply Rem.tail)) ?_ | exact Sbp.app | refine Sbp.skip ?_ | exact List.sublist_append_left _ _ | exact List.sublist_append_right _ _)))
  · intro k gj8 hz
    refine CS.seq ?_
    refine CS.region ?_
    refine RS.q rfl (QO.lss (by rfl) (by rfl)) ?_
    refine RS.nil ?_
    refine thenC_n ?_
    refine CS.seq ?_
    refine CS.cond (by rfl) (fun hb0 => ?_) (fun hb0 => ?_)
    · have hb0p := of_decide_eq_true hb0
      refine CS.skip ?_
      refine thenC_n ?_
      refine CS.seq ?_
      refine CS.block ?_
      refine CS.seq ?_
      refine CS.region ?_
      refine RS.q rfl (QO.move) ?_
      refine RS.q rfl (QO.assign) ?_
      refine RS.nil ?_
      refine thenC_n ?_
      refine CS.draw 15 rfl (by kernel_rfl) (by kernel_rfl) ?_
      have hx1 := hA (by omega)
      obtain ⟨bA, oA, e1, hcell⟩ := hx1
      have hpx := px_cells (xs := xs) (k := k) (by omega) hcell
      refine RT.take (i := 0) rfl (by kernel_rfl) rfl (QO.move) ?_
      refine RT.take (i := 1) rfl (by kernel_rfl) rfl (QO.move) ?_
      refine RT.take (i := 3) rfl (by kernel_rfl) rfl (QO.fieldAddr fo26_1 (by rfl)) ?_
      first | (refine RT.take (i := 4) rfl (by kernel_rfl) rfl (QO.load ty24 (by rfl) (by repeat (first | exact List.Mem.head _ | refine List.Mem.tail _ ?_)) (by rfl)) ?_) | (refine RT.take (i := 4) rfl (by kernel_rfl) rfl (QO.loadO ty24 (by rfl) (by assumption)) ?_) | (refine RT.take (i := 4) rfl (by kernel_rfl) rfl (QO.load ty24 (by rfl) (by repeat (first | exact List.Mem.head _ | refine List.Mem.tail _ ?_)) (by assumption)) ?_)
      refine RT.take (i := 5) rfl (by kernel_rfl) rfl (QO.move) ?_
      first | (refine RT.take (i := 6) rfl (by kernel_rfl) rfl (QO.mul (by rfl) (by rfl) (by omega) (by omega)) ?_) | (refine RT.take (i := 6) rfl (by kernel_rfl) rfl (QO.ibin (by rfl) (by rfl) trivial) ?_)
      refine RT.take (i := 7) rfl (by kernel_rfl) rfl (QO.move) ?_
      first | (refine RT.take (i := 8) rfl (by kernel_rfl) rfl (QO.mul (by rfl) (by rfl) (by omega) (by omega)) ?_) | (refine RT.take (i := 8) rfl (by kernel_rfl) rfl (QO.ibin (by rfl) (by rfl) trivial) ?_)
      first | (refine RT.take (i := 9) rfl (by kernel_rfl) rfl (QO.add (by rfl) (by rfl) (by omega) (by omega)) ?_) | (refine RT.take (i := 9) rfl (by kernel_rfl) rfl (QO.ibin (by rfl) (by rfl) trivial) ?_)
      refine RT.takev (i := 10) rfl (by kernel_rfl) rfl (QO.cutLoHi Try.underlying24 ty29 (congrArg (fun A => Value.slice A n c) e1) (by rfl) (by rfl) (by omega) (by omega) (by omega)) ((cutAt_1 (g := bA) (o := oA) (k := k) (c := c) (by omega))) ?_
      refine RT.take (i := 11) rfl (by kernel_rfl) rfl (QO.arrPtr Try.underlying172 (by rfl) (by omega)) ?_
      refine RT.take (i := 12) rfl (by kernel_rfl) rfl (QO.loadOA ty172 (vs := [flt (xs.getD (4 * k + 0) 0), flt (xs.getD (4 * k + 1) 0), flt (xs.getD (4 * k + 2) 0), flt (xs.getD (4 * k + 3) 0)]) (by rfl) hpx (by rfl)) ?_
      refine RT.one (i := 2) (by kernel_rfl) rfl rfl ?_
      refine RS.call rfl (by rfl) ok110 (by rfl) (fun w ho => weights_ _) ?_
      rintro _ _ ⟨rfl, rfl⟩
      refine RS.nil ⟨(by repeat (first | exact List.Sublist.refl _ | exact List.nil_sublist _ | refine List.Sublist.cons_cons _ ?_ | refine List.Sublist.cons _ ?_ | exact Sbp.refl | exact Sbp.nil | refine Sbp.cons (by repeat (first | exact Rem.head | apply Rem.tail)) ?_ | exact Sbp.app | refine Sbp.skip ?_ | exact List.sublist_append_left _ _ | exact List.sublist_append_right _ _)), ?_⟩
      refine RT.one (i := 13) (by kernel_rfl) rfl rfl ?_
      refine RS.call rfl (by rfl) ok109 (by rfl) (fun w ho => luma_ wtsV (fun cc => xs.getD (4 * k + cc) 0) _) ?_
      rintro _ _ ⟨rfl, rfl⟩
      refine RS.nil ⟨(by repeat (first | exact List.Sublist.refl _ | exact List.nil_sublist _ | refine List.Sublist.cons_cons _ ?_ | refine List.Sublist.cons _ ?_ | exact Sbp.refl | exact Sbp.nil | refine Sbp.cons (by repeat (first | exact Rem.head | apply Rem.tail)) ?_ | exact Sbp.app | refine Sbp.skip ?_ | exact List.sublist_append_left _ _ | exact List.sublist_append_right _ _)), ?_⟩
      first | (refine RT.take (i := 14) rfl (by kernel_rfl) rfl (QO.idx0 Try.underlying24 ty29 (by rfl) (by rfl) (by rfl) (by omega)) ?_) | (refine RT.take (i := 14) rfl (by kernel_rfl) rfl (QO.idxn Try.underlying24 ty29 (by rfl) (by rfl) (by rfl) (by omega)) ?_) | (refine RT.take (i := 14) rfl (by kernel_rfl) rfl (QO.idx1 Try.underlying24 ty29 (by rfl) (by rfl) (by omega) (by omega)) ?_)
      refine RT.tail (i := 15) (by kernel_rfl) rfl rfl ?_
      refine RS.store1e ty29 rfl (by rfl) (by rfl) (by rfl) (partL_set (chanV xs 4) (a * b) k _ chanV_lu (by omega)) (by repeat (first | exact Upd.head | apply Upd.tail)) (by rw [partL_len]; omega) ?_
      refine RS.nil ?_
      refine RT.done (by kernel_rfl) ?_
      refine blockC_n ?_
      refine thenC_n ?_
      refine CS.region ?_
      first | (refine RS.q rfl (QO.add (by rfl) (by rfl) (by omega) (by omega)) ?_) | (refine RS.q rfl (QO.ibin (by rfl) (by rfl) trivial) ?_)
      refine RS.q rfl (QO.move) ?_
      refine RS.nil ?_
      refine loopQ_n (by intro t ht; repeat (first | with_reducible exact rfl | exact frame_puts ht (frame_mix ht) _ rfl | (refine frame_put rfl ht ?_) | (refine frame_puts ht ?_ _ rfl) | exact frame_mix ht | (refine frame_mix2 rfl ht ?_) | exact rfl)) ?_
      exact ⟨k + 1, by omega, by omega, (by repeat (first | exact kn_nil | refine kn_cons (by rfl) ?_)), (by repeat (first | exact List.Sublist.refl _ | exact List.nil_sublist _ | refine List.Sublist.cons_cons _ ?_ | refine List.Sublist.cons _ ?_ | exact Sbp.refl | exact Sbp.nil | refine Sbp.cons (by repeat (first | exact Rem.head | apply Rem.tail)) ?_ | exact Sbp.app | refine Sbp.skip ?_ | exact List.sublist_append_left _ _ | exact List.sublist_append_right _ _))⟩
    · have hb0p := of_decide_eq_false hb0
      refine CS.exit ?_
      refine thenC_x ?_
      refine loopQ_x ?_
      refine blockC_x ?_
      refine thenC_n ?_
      refine CS.seq ?_
      refine CS.region ?_
      refine RS.q rfl (QO.move) ?_
      refine RS.q rfl (QO.assign) ?_
      refine RS.q rfl (QO.assign) ?_
      refine RS.nil ?_
      refine thenC_n ?_
      refine CS.ret ?_
      refine retQ.mk (H' := [⟨g28, 29, ((List.range (a * b)).map (chanV xs 4)).map flt⟩]) (.inr rfl) (RVs.tmp (by rfl) (RVs.tmp (by rfl) RVs.nil)) (by obtain rfl : k = a * b := (by omega); rw [partL_full]; exact (by repeat (first | exact List.Sublist.refl _ | exact List.nil_sublist _ | refine List.Sublist.cons_cons _ ?_ | refine List.Sublist.cons _ ?_ | exact Sbp.refl | exact Sbp.nil | refine Sbp.cons (by repeat (first | exact Rem.head | apply Rem.tail)) ?_ | exact Sbp.app | refine Sbp.skip ?_ | exact List.sublist_append_left _ _ | exact List.sublist_append_right _ _))) ?_
      exact ⟨g28, rfl, rfl⟩

theorem fixC (x y : Nat) (W : World) (h : cl x = y) : Fn_ Try.prog 82 #[flt x] W (fun v H => v = flt y ∧ H = []) := by subst h; exact fix x W
theorem fo_lt (op : BinOp) (a b : Nat) : fo op a b < 4294967296 := by
  unfold fo
  have key : ∀ r : Nat, r < 4294967296 → cl r < 4294967296 := fun r hr => by unfold cl; split <;> omega
  apply key
  have w : (2 : Nat) ^ Ieee.single.width = 4294967296 := by decide
  cases h : fop op a b with
  | none => exact (by decide : (2143289344 : Nat) < 4294967296)
  | some r =>
    show r < 4294967296
    rw [← w]
    cases op <;> simp only [fop] at h
    case add => exact Ieee.Format.add_lt _ h
    case sub => exact Ieee.Format.sub_lt _ h
    case mul => exact Ieee.Format.mul_lt _ h
    case quo => exact Ieee.Format.div_lt _ h
    all_goals cases h
/-- the values of a channel -/
def chV (xs : List Nat) (ch : Int) (m : Nat) : List Nat := (List.range m).map (chanV xs ch)
theorem chV_len (xs : List Nat) (ch : Int) (m : Nat) : (chV xs ch m).length = m := by simp [chV]
theorem chV_ok {xs : List Nat} (h : ∀ x ∈ xs, x < 4294967296) (ch : Int) (m : Nat) : ∀ x ∈ chV xs ch m, x < 4294967296 ∧ cl x = x := fun x hx => by
  unfold chV at hx
  obtain ⟨k, _, rfl⟩ := List.mem_map.1 hx
  unfold chanV
  split
  · exact ⟨fo_lt _ _ _, cl_luma _ _⟩
  · refine ⟨?_, cl_cl _⟩
    have h1 := gd_32 h (4 * k + ch.toNat)
    unfold gd at h1
    unfold cl
    split <;> omega

set_option maxRecDepth 100000 in
theorem usual_ (W : World) : Fn_ Try.prog 117 #[] W (fun v H => v = .agg #[flt (wtsV 0), flt (wtsV 1), flt (wtsV 2)] ∧ H = []) := by
  refine Fn_.intro Try.func117 rfl rfl (by rfl) ?_
  refine CS.seq ?_
  refine CS.region ?_
  refine RS.alloc rfl ty169 ?_
  intro g0
  refine RS.nil ?_
  refine thenC_n ?_
  refine CS.seq ?_
  refine CS.region ?_
  refine RS.q rfl (QO.buildA Try.underlying169 ty169 ty29 (by rfl)) ?_
  first | refine RS.storeB ty169 (by rfl) (by rfl) (by rfl) (by rfl) (by rfl) (by repeat (first | exact Upd.head | apply Upd.tail)) (by rfl) ?_ | refine RS.storeP ty169 (by rfl) (by rfl) (by rfl) (by rfl) (by rfl) (by repeat (first | exact Upd.head | apply Upd.tail)) (by rfl) ?_
  refine RS.nil ?_
  refine thenC_n ?_
  refine CS.ret ?_
  refine retQ.mk (H' := []) (.inr rfl) (RVs.cellA ty169 (by rfl) (by repeat (first | exact List.Mem.head _ | refine List.Mem.tail _ ?_)) (by rfl) RVs.nil) (List.nil_sublist _) ?_
  exact ⟨rfl, rfl⟩

set_option maxHeartbeats 4000000 in
set_option maxRecDepth 100000 in
theorem rvalsPl (X Y : Int) (a b : Nat) (A : Option Addr) (n c : Nat) (xs : List Nat) (ch : Int) (W : World) (hn : xs.length = n) (hA : FS W A xs) (hfr : frErr X Y (a : Int) (b : Int) n = 0) (hN : n = 4 * (a * b)) (hc : n ≤ c) (hcm : c ≤ maxLen) (ha : 1 ≤ a ∧ a ≤ 256) (hb : 1 ≤ b ∧ b ≤ 256) (h0 : 0 ≤ ch) (h3 : ch ≤ 3) : Fn_ Try.prog 64 #[.agg #[iv X, iv Y, iv (a : Int), iv (b : Int), .slice A n c], iv ch] W (fun v H => Row 29 1 v (a * b) ((chV xs ch (a * b)).map flt) H) := by
  have hup := Nat.mul_le_mul ha.2 hb.2
  refine Fn_.intro Try.func64 rfl rfl (by rfl) ?_
  refine CS.seq ?_
  refine CS.region ?_
  refine RS.box rfl (by rfl) (by rfl) ?_
  intro g2
  refine RS.q rfl (QO.assign) ?_
  refine RS.nil ?_
  refine thenC_n ?_
  refine CS.seq ?_
  refine CS.seq ?_
  refine CS.region ?_
  refine RS.q rfl (QO.move) ?_
  refine RS.q rfl (QO.lss (by rfl) (by rfl)) ?_
  refine RS.nil ?_
  refine thenC_n ?_
  refine CS.condT (by rfl) (decide_eq_true (by omega)) ?_
  refine CS.seq ?_
  refine CS.region ?_
  first | (refine RS.q rfl (QO.loadB ty26 (by rfl) (by repeat (first | exact List.Mem.head _ | refine List.Mem.tail _ ?_)) (by rfl)) ?_) | (refine RS.q rfl (QO.loadA ty26 (by rfl) (by repeat (first | exact List.Mem.head _ | refine List.Mem.tail _ ?_)) (by rfl) (by rfl)) ?_) | (refine RS.q rfl (QO.loadOA ty26 (by rfl) (by assumption) (by rfl)) ?_)
  refine RS.q rfl (QO.move) ?_
  refine RS.call rfl (by rfl) ok115 (by rfl) (fun w ho => rplane X Y (a : Int) (b : Int) A n c xs ch (a * b) _ hn (hA.own ho) (by omega) (by omega) h0 h3) ?_
  intro v11 H11 h11
  refine RS.q rfl (QO.assign) ?_
  refine RS.nil ?_
  refine thenC_n ?_
  refine CS.ret ?_
  refine thenC_r ?_
  refine retQ.mk (H' := H11) (.inr rfl) (RVs.tmp (by rfl) RVs.nil) (by repeat (first | exact List.Sublist.refl _ | exact List.nil_sublist _ | refine List.Sublist.cons_cons _ ?_ | refine List.Sublist.cons _ ?_ | exact Sbp.refl | exact Sbp.nil | refine Sbp.cons (by repeat (first | exact Rem.head | apply Rem.tail)) ?_ | exact Sbp.app | refine Sbp.skip ?_ | exact List.sublist_append_left _ _ | exact List.sublist_append_right _ _)) ?_
  have h9 := h11
  rw [chanV_pl h0 h3] at h9
  exact h9

theorem cutAt_2 {g o k c : Nat} (h : 4 * k < c) : Value.slice (cutAt g o ((4 * k : Nat) : Int).toNat c 1) (((4 * k + 4 : Nat) : Int).toNat - ((4 * k : Nat) : Int).toNat) (c - ((4 * k : Nat) : Int).toNat) = Value.slice (some ⟨g, o + 4 * k, none⟩) 4 (c - 4 * k) := by
  have h1 := cutAt_1 (g := g) (o := o) (k := k) (c := c) h
  rw [show ((4 * k : Nat) : Int) = 4 * (k : Int) by omega, show ((4 * k + 4 : Nat) : Int) = 4 * (k : Int) + 4 by omega]
  exact h1

set_option maxHeartbeats 4000000 in
set_option maxRecDepth 100000 in
theorem rvalsLu (X Y : Int) (a b : Nat) (A : Option Addr) (n c : Nat) (xs : List Nat) (W : World) (hn : xs.length = n) (hA : FS W A xs) (hfr : frErr X Y (a : Int) (b : Int) n = 0) (hN : n = 4 * (a * b)) (hc : n ≤ c) (hcm : c ≤ maxLen) (ha : 1 ≤ a ∧ a ≤ 256) (hb : 1 ≤ b ∧ b ≤ 256) : Fn_ Try.prog 64 #[.agg #[iv X, iv Y, iv (a : Int), iv (b : Int), .slice A n c], iv 4] W (fun v H => Row 29 1 v (a * b) ((chV xs 4 (a * b)).map flt) H) := by
  have hpos := Nat.mul_le_mul ha.1 hb.1
  have hup := Nat.mul_le_mul ha.2 hb.2
  have hcm2 : c ≤ 9223372036854775807 := hcm
  refine Fn_.intro Try.func64 rfl rfl (by rfl) ?_
  refine CS.seq ?_
  refine CS.region ?_
  refine RS.box rfl (by rfl) (by rfl) ?_
  intro g2
  refine RS.q rfl (QO.assign) ?_
  refine RS.nil ?_
  refine thenC_n ?_
  refine CS.seq ?_
  refine CS.seq ?_
  refine CS.region ?_
  refine RS.q rfl (QO.move) ?_
  refine RS.q rfl (QO.lss (by rfl) (by rfl)) ?_
  refine RS.nil ?_
  refine thenC_n ?_
  refine CS.condF (by rfl) (decide_eq_false (by decide)) ?_
  refine CS.skip ?_
  refine thenC_n ?_
  refine CS.seq ?_
  refine CS.region ?_
  refine RS.q rfl (QO.assign) ?_
  refine RS.nil ?_
  refine thenC_n ?_
  refine CS.seq ?_
  refine CS.seq ?_
  refine CS.region ?_
  refine RS.q rfl (QO.assign) ?_
  refine RS.nil ?_
  refine thenC_n ?_
  refine CS.block ?_
  refine CS.loop (X := Nat × Value × HL) (5 :: 6 :: 12 :: 13 :: 14 :: 15 :: 16 :: 17 :: 18 :: 19 :: 20 :: 21 :: 22 :: 23 :: 24 :: 25 :: 26 :: 27 :: 28 :: 29 :: 30 :: 31 :: 32 :: []) (fun z => [(6, iv ((4 * z.1 : Nat) : Int)), (5, z.2.1)]) (fun z => ⟨g2, 26, [iv X, iv Y, iv (a : Int), iv (b : Int), .slice A n c]⟩ :: z.2.2) (fun z => z.1 ≤ a * b ∧ Row 29 1 z.2.1 z.1 (((List.range z.1).map (chanV xs 4)).map flt) z.2.2) (fun z => a * b - z.1) (0, .slice none 0 0, []) ⟨Nat.zero_le _, .nil⟩ ?_ ?_ ?_
  · exact kn_cons rfl (kn_cons rfl kn_nil)
  · exact (by repeat (first | exact List.Sublist.refl _ | exact List.nil_sublist _ | refine List.Sublist.cons_cons _ ?_ | refine List.Sublist.cons _ ?_ | exact Sbp.refl | exact Sbp.nil | refine Sbp.cons (by repeat (first | exact Rem.head | apply Rem.tail)) ?_ | exact Sbp.app | refine Sbp.skip ?_ | exact List.sublist_append_left _ _ | exact List.sublist_append_right _ _))
  · intro z gj5 hz
    obtain ⟨k, v, Hr⟩ := z
    obtain ⟨hk, hrow⟩ := hz
    replace hk : k ≤ a * b := hk
    replace hrow : Row 29 1 v k (((List.range k).map (chanV xs 4)).map flt) Hr := hrow
    show CS _ _ _ _ _ (puts (mix _ _ _) [(6, iv ((4 * k : Nat) : Int)), (5, v)]) (⟨g2, 26, [iv X, iv Y, iv (a : Int), iv (b : Int), .slice A n c]⟩ :: Hr)
    refine CS.seq ?_
    refine CS.seq ?_
    refine CS.region ?_
    refine RS.q rfl (QO.move) ?_
    refine RS.q rfl (QO.fieldAddr fo26_1 (by rfl)) ?_
    first | (refine RS.q rfl (QO.load ty24 (by rfl) (by repeat (first | exact List.Mem.head _ | refine List.Mem.tail _ ?_)) (by rfl)) ?_) | (refine RS.q rfl (QO.loadO ty24 (by rfl) (by assumption)) ?_) | (refine RS.q rfl (QO.load ty24 (by rfl) (by repeat (first | exact List.Mem.head _ | refine List.Mem.tail _ ?_)) (by assumption)) ?_)
    refine RS.q rfl (QO.lenS Try.underlying24 (by rfl)) ?_
    refine RS.q rfl (QO.lss (by rfl) (by rfl)) ?_
    refine RS.nil ?_
    refine thenC_n ?_
    refine CS.cond (by rfl) (fun hb0 => ?_) (fun hb0 => ?_)
    · have hb0p := of_decide_eq_true hb0
      refine CS.skip ?_
      refine thenC_n ?_
      refine CS.seq ?_
      refine CS.block ?_
      refine CS.drawS (HS := [⟨g2, 26, [iv X, iv Y, iv (a : Int), iv (b : Int), .slice A n c]⟩]) 15 (by repeat (first | exact List.Sublist.refl _ | exact List.nil_sublist _ | refine List.Sublist.cons_cons _ ?_ | refine List.Sublist.cons _ ?_ | exact Sbp.refl | exact Sbp.nil | refine Sbp.cons (by repeat (first | exact Rem.head | apply Rem.tail)) ?_ | exact Sbp.app | refine Sbp.skip ?_ | exact List.sublist_append_left _ _ | exact List.sublist_append_right _ _)) rfl (by kernel_rfl) (by kernel_rfl) ?_
      have hx1 := hA (by omega)
      obtain ⟨bA, oA, e1, hcell⟩ := hx1
      have hpx := px_cells (xs := xs) (k := k) (by omega) hcell
      refine RT.take (i := 0) rfl (by kernel_rfl) rfl (QO.move) ?_
      refine RT.take (i := 2) rfl (by kernel_rfl) rfl (QO.fieldAddr fo26_1 (by rfl)) ?_
      first | (refine RT.take (i := 3) rfl (by kernel_rfl) rfl (QO.load ty24 (by rfl) (by repeat (first | exact List.Mem.head _ | refine List.Mem.tail _ ?_)) (by rfl)) ?_) | (refine RT.take (i := 3) rfl (by kernel_rfl) rfl (QO.loadO ty24 (by rfl) (by assumption)) ?_) | (refine RT.take (i := 3) rfl (by kernel_rfl) rfl (QO.load ty24 (by rfl) (by repeat (first | exact List.Mem.head _ | refine List.Mem.tail _ ?_)) (by assumption)) ?_)
      refine RT.take (i := 4) rfl (by kernel_rfl) rfl (QO.move) ?_
      refine RT.take (i := 5) rfl (by kernel_rfl) rfl (QO.move) ?_
      first | (refine RT.takev (i := 6) rfl (by kernel_rfl) rfl (QO.add (by rfl) (by rfl) (by omega) (by omega)) (congrArg iv (show ((4 * k : Nat) : Int) + 4 = ((4 * k + 4 : Nat) : Int) by omega)) ?_) | (refine RT.takev (i := 6) rfl (by kernel_rfl) rfl (QO.ibin (by rfl) (by rfl) trivial) (congrArg iv (show ((4 * k : Nat) : Int) + 4 = ((4 * k + 4 : Nat) : Int) by omega)) ?_)
      refine RT.takev (i := 7) rfl (by kernel_rfl) rfl (QO.cutLoHi Try.underlying24 ty29 (congrArg (fun A => Value.slice A n c) e1) (by rfl) (by rfl) (by omega) (by omega) (by omega)) ((cutAt_2 (g := bA) (o := oA) (k := k) (c := c) (by omega))) ?_
      refine RT.take (i := 8) rfl (by kernel_rfl) rfl (QO.arrPtr Try.underlying172 (by rfl) (by omega)) ?_
      refine RT.take (i := 9) rfl (by kernel_rfl) rfl (QO.loadOA ty172 (vs := [flt (xs.getD (4 * k + 0) 0), flt (xs.getD (4 * k + 1) 0), flt (xs.getD (4 * k + 2) 0), flt (xs.getD (4 * k + 3) 0)]) (by rfl) hpx (by rfl)) ?_
      refine RT.one (i := 1) (by kernel_rfl) rfl rfl ?_
      refine RS.call rfl (by rfl) ok117 (by rfl) (fun w ho => usual_ _) ?_
      rintro _ _ ⟨rfl, rfl⟩
      refine RS.nil ⟨(by repeat (first | exact List.Sublist.refl _ | exact List.nil_sublist _ | refine List.Sublist.cons_cons _ ?_ | refine List.Sublist.cons _ ?_ | exact Sbp.refl | exact Sbp.nil | refine Sbp.cons (by repeat (first | exact Rem.head | apply Rem.tail)) ?_ | exact Sbp.app | refine Sbp.skip ?_ | exact List.sublist_append_left _ _ | exact List.sublist_append_right _ _)), ?_⟩
      refine RT.one (i := 10) (by kernel_rfl) rfl rfl ?_
      refine RS.call rfl (by rfl) ok116 (by rfl) (fun w ho => rluma wtsV (fun cc => xs.getD (4 * k + cc) 0) _) ?_
      rintro _ _ ⟨rfl, rfl⟩
      refine RS.nil ⟨(by repeat (first | exact List.Sublist.refl _ | exact List.nil_sublist _ | refine List.Sublist.cons_cons _ ?_ | refine List.Sublist.cons _ ?_ | exact Sbp.refl | exact Sbp.nil | refine Sbp.cons (by repeat (first | exact Rem.head | apply Rem.tail)) ?_ | exact Sbp.app | refine Sbp.skip ?_ | exact List.sublist_append_left _ _ | exact List.sublist_append_right _ _)), ?_⟩
      refine RT.one (i := 11) (by kernel_rfl) rfl rfl ?_
      refine RS.call rfl (by rfl) ok82 (by rfl) (fun w ho => fixC _ (chanV xs 4 k) _ ((cl_luma _ _).trans chanV_lu)) ?_
      rintro _ _ ⟨rfl, rfl⟩
      refine RS.nil ⟨(by repeat (first | exact List.Sublist.refl _ | exact List.nil_sublist _ | refine List.Sublist.cons_cons _ ?_ | refine List.Sublist.cons _ ?_ | exact Sbp.refl | exact Sbp.nil | refine Sbp.cons (by repeat (first | exact Rem.head | apply Rem.tail)) ?_ | exact Sbp.app | refine Sbp.skip ?_ | exact List.sublist_append_left _ _ | exact List.sublist_append_right _ _)), ?_⟩
      refine RT.one (i := 12) (by kernel_rfl) rfl rfl ?_
      refine RS.buildSlice rfl Try.underlying24 ty29 (by decide) (by decide) (by rfl) (by rfl) ?_
      intro g31
      refine RS.nil ⟨(by repeat (first | exact List.Sublist.refl _ | exact List.nil_sublist _ | refine List.Sublist.cons_cons _ ?_ | refine List.Sublist.cons _ ?_ | exact Sbp.refl | exact Sbp.nil | refine Sbp.cons (by repeat (first | exact Rem.head | apply Rem.tail)) ?_ | exact Sbp.app | refine Sbp.skip ?_ | exact List.sublist_append_left _ _ | exact List.sublist_append_right _ _)), ?_⟩
      refine RT.one (i := 13) (by kernel_rfl) rfl rfl ?_
      refine RS.appendRow rfl Try.underlying24 ty29 (by rfl) hrow (by repeat (first | exact Suf.base | apply Suf.cons)) (by rfl) (Src.blk (by repeat (first | exact List.Mem.head _ | refine List.Mem.tail _ ?_))) (by rfl) (by rfl) (by decide) (by decide) (by unfold maxLen; omega) (by omega) ?_
      intro v32 H32 hrow32
      refine RS.nil ⟨(by repeat (first | exact List.Sublist.refl _ | exact List.nil_sublist _ | refine List.Sublist.cons_cons _ ?_ | refine List.Sublist.cons _ ?_ | exact Sbp.refl | exact Sbp.nil | refine Sbp.cons (by repeat (first | exact Rem.head | apply Rem.tail)) ?_ | exact Sbp.app | refine Sbp.skip ?_ | exact List.sublist_append_left _ _ | exact List.sublist_append_right _ _)), ?_⟩
      refine RT.take (i := 14) rfl (by kernel_rfl) rfl (QO.assign) ?_
      refine RT.done (by kernel_rfl) ?_
      refine blockC_n ?_
      refine thenC_n ?_
      refine CS.region ?_
      refine RS.q rfl (QO.move) ?_
      first | (refine RS.q rfl (QO.add (by rfl) (by rfl) (by omega) (by omega)) ?_) | (refine RS.q rfl (QO.ibin (by rfl) (by rfl) trivial) ?_)
      refine RS.q rfl (QO.assign) ?_
      refine RS.nil ?_
      refine loopQ_n (by intro t ht; repeat (first | with_reducible exact rfl | exact frame_puts ht (frame_mix ht) _ rfl | (refine frame_put rfl ht ?_) | (refine frame_puts ht ?_ _ rfl) | exact frame_mix ht | (refine frame_mix2 rfl ht ?_) | exact rfl)) ?_
      exact ⟨(k + 1, v32, H32), ⟨(by show k + 1 ≤ a * b; omega), (by show Row 29 1 v32 (k + 1) (((List.range (k + 1)).map (chanV xs 4)).map flt) H32; rw [List.range_succ, List.map_append, List.map_append]; exact hrow32)⟩, by show a * b - (k + 1) < a * b - k; omega, kn_cons (congrArg iv (by show ((4 * k : Nat) : Int) + 4 = ((4 * (k + 1) : Nat) : Int); omega)) (kn_cons rfl kn_nil), (by repeat (first | exact List.Sublist.refl _ | exact List.nil_sublist _ | refine List.Sublist.cons_cons _ ?_ | refine List.Sublist.cons _ ?_ | exact Sbp.refl | exact Sbp.nil | refine Sbp.cons (by repeat (first | exact Rem.head | apply Rem.tail)) ?_ | exact Sbp.app | refine Sbp.skip ?_ | exact List.sublist_append_left _ _ | exact List.sublist_append_right _ _))⟩
    · have hb0p := of_decide_eq_false hb0
      refine CS.exit ?_
      refine thenC_x ?_
      refine loopQ_x ?_
      refine blockC_x ?_
      refine thenC_n ?_
      refine CS.seq ?_
      refine CS.region ?_
      refine RS.q rfl (QO.move) ?_
      refine RS.q rfl (QO.assign) ?_
      refine RS.nil ?_
      refine thenC_n ?_
      refine CS.ret ?_
      refine retQ.mk (H' := Hr) (.inr rfl) (RVs.tmp (by rfl) RVs.nil) (by repeat (first | exact List.Sublist.refl _ | exact List.nil_sublist _ | refine List.Sublist.cons_cons _ ?_ | refine List.Sublist.cons _ ?_ | exact Sbp.refl | exact Sbp.nil | refine Sbp.cons (by repeat (first | exact Rem.head | apply Rem.tail)) ?_ | exact Sbp.app | refine Sbp.skip ?_ | exact List.sublist_append_left _ _ | exact List.sublist_append_right _ _)) ?_
      have hk9 : k = a * b := by omega
      have h9 := hrow
      rw [hk9] at h9
      exact h9

theorem rvals (X Y : Int) (a b : Nat) (A : Option Addr) (n c : Nat) (xs : List Nat) (ch : Int) (W : World) (hn : xs.length = n) (hA : FS W A xs) (hfr : frErr X Y (a : Int) (b : Int) n = 0) (hN : n = 4 * (a * b)) (hc : n ≤ c) (hcm : c ≤ maxLen) (ha : 1 ≤ a ∧ a ≤ 256) (hb : 1 ≤ b ∧ b ≤ 256) (h0 : 0 ≤ ch) (h4 : ch ≤ 4) : Fn_ Try.prog 64 #[.agg #[iv X, iv Y, iv (a : Int), iv (b : Int), .slice A n c], iv ch] W (fun v H => Row 29 1 v (a * b) ((chV xs ch (a * b)).map flt) H) := by
  by_cases e : ch = 4
  · subst e; exact rvalsLu X Y a b A n c xs W hn hA hfr hN hc hcm ha hb
  · exact rvalsPl X Y a b A n c xs ch W hn hA hfr hN hc hcm ha hb h0 (by omega)
theorem vals_ (X Y : Int) (a b : Nat) (A : Option Addr) (n c : Nat) (xs : List Nat) (ch : Int) (W : World) (hn : xs.length = n) (hA : FS W A xs) (hfr : frErr X Y (a : Int) (b : Int) n = 0) (hN : n = 4 * (a * b)) (hc : n ≤ c) (hcm : c ≤ maxLen) (ha : 1 ≤ a ∧ a ≤ 256) (hb : 1 ≤ b ∧ b ≤ 256) (h0 : 0 ≤ ch) (h4 : ch ≤ 4) : Fn_ Try.prog 50 #[.agg #[iv X, iv Y, iv (a : Int), iv (b : Int), .slice A n c], iv ch] W (fun v H => ∃ g, v = .tuple #[.slice (some ⟨g, 0, none⟩) (a * b) (a * b), iv 0] ∧ H = [⟨g, 29, (chV xs ch (a * b)).map flt⟩]) := by
  by_cases e : ch = 4
  · subst e; exact valsLu X Y a b A n c xs W hn hA hfr hN hc hcm ha hb
  · exact valsPl X Y a b A n c xs ch W hn hA hfr h0 (by omega)

end Go.Proofs.Ytapcgokcfmklbaa

namespace Go.Proofs.Ytapcgokcfmklbaa
open Go Go.RowKit

theorem zeroCells_flt (u : Value) (k : Nat) : (Builtin.zeroCells [u].toArray k).toList = List.replicate k u := by
  unfold Builtin.zeroCells
  apply List.ext_getElem
  · simp
  · intro i h1 h2
    simp at h1 ⊢
    rw [Nat.mod_one]; rfl
section
variable {P : Program} {W : World} {n : Nat} {ops : Array Oper} {Q : Env → HL → Prop} {rest : List Oper} {e : Env} {H : HL}
variable {ty t : TypeId} {pos : String} {af : Array Edge} {x : Operand} {u : Value} {ag : Bool} {by_ : Nat}
theorem RS.clear {el : TypeId} {g o k c : Nat} {tb : TypeId} {cs cs' : List Value} {H' : HL} (hu : P.underlying t = some (.slice el)) (he : tyChk P el = some ([u], ag, by_)) (hx : ev e x = .slice (some ⟨g, o, none⟩) (k + 1) c) (h1 : u.oneCell' = true)
    (hU : Upd g tb cs cs' H H') (ho : o + (k + 1) ≤ cs.length) (hcs : cs.take o ++ List.replicate (k + 1) u ++ cs.drop (o + (k + 1)) = cs')
    (kk : RS P W n ops Q rest e H') : RS P W n ops Q (⟨none, .call ⟨.builtin .clear, #[x], #[t]⟩, ty, pos, af, none⟩ :: rest) e H := by
  refine RS.step (d := none) rfl fun w hw => ?_
  obtain ⟨hg, hb⟩ := hw.blk _ hU.mem
  have hl : (List.replicate (k + 1) u).length = k + 1 := List.length_replicate
  obtain ⟨w', r1, r2, r3, r4, r5, r6, r7⟩ := run_storeCells (P := P) (List.replicate (k + 1) u) cs w o 0 hb (by rw [hl]; simpa using ho) (fun v hv => by rw [(List.mem_replicate.1 hv).2]; exact h1)
  obtain ⟨zv, hz, hzc⟩ := run_zero (P := P) (w := w) he
  refine ⟨.tuple #[], w', H', ?_, hU.own hw ?_ (by rw [hl] at r2; simpa [hcs] using r2) (fun k hk _ => r7 k hk), kk⟩
  · have e1 : (Builtin.zeroCells zv.cells (k + 1)).toList = List.replicate (k + 1) u := by rw [hzc]; exact zeroCells_flt u (k + 1)
    simp [execOp, resolve, invoke, builtin, Builtin.clear_, hx, run_underlying hu, hz, e1, r1]
  · refine hw.below.trans ⟨r4, r5, r6, by omega, fun k hk => r7 k ?_⟩
    have : W.heap.size ≤ g := hg
    omega
end
end Go.Proofs.Ytapcgokcfmklbaa

namespace Go.Proofs.Ytapcgokcfmklbaa
open Go Go.Proofs Go.RowKit

theorem ok50 : callOK Try.prog 50 = true := by kernel_rfl
theorem ok64 : callOK Try.prog 64 = true := by kernel_rfl
theorem ok66 : callOK Try.prog 66 = true := by kernel_rfl

theorem tdivQ (a b : Nat) : ((a : Int)).tdiv (b : Int) = ((a / b : Nat) : Int) := by simp [Int.tdiv]
theorem rk_lt {N p : Nat} (h : 0 < N) (hp : p ≤ 100) : (N - 1) * p / 100 < N := by
  have h1 : (N - 1) * p ≤ (N - 1) * 100 := Nat.mul_le_mul_left _ hp
  have h2 : (N - 1) * 100 / 100 = N - 1 := Nat.mul_div_cancel _ (by decide)
  have h3 := Nat.div_le_div_right (c := 100) h1
  omega

theorem RS.blkEq {P : Program} {W : World} {n : Nat} {ops : Array Oper} {Q : Env → HL → Prop} {rest : List Oper} {e : Env} {H : HL} {g : Nat} {t : TypeId} {xs ys : List Value} (h : xs = ys) (k : RS P W n ops Q rest e (⟨g, t, ys⟩ :: H)) : RS P W n ops Q rest e (⟨g, t, xs⟩ :: H) := by
  subst h; exact k

set_option maxHeartbeats 4000000 in
set_option maxRecDepth 100000 in
theorem rRank (X Y : Int) (a b : Nat) (A : Option Addr) (n c : Nat) (xs : List Nat) (ch : Int) (W : World) (hn : xs.length = n) (hA : FS W A xs) (hfr : frErr X Y (a : Int) (b : Int) n = 0) (hN : n = 4 * (a * b)) (hc : n ≤ c) (hcm : c ≤ maxLen) (ha : 1 ≤ a ∧ a ≤ 256) (hb : 1 ≤ b ∧ b ≤ 256) (h32 : ∀ x ∈ xs, x < 4294967296) (h0 : 0 ≤ ch) (h4 : ch ≤ 4) (p : Nat) (hp : p ≤ 100) : Fn_ Try.prog 22 #[.agg #[iv X, iv Y, iv (a : Int), iv (b : Int), .slice A n c], iv ch, iv (p : Int)] W (fun v H => ∃ d2, v = .tuple #[flt (d2 ((a * b - 1) * p / 100)), iv 0] ∧ Mv (a * b) 0 (a * b) (gd (chV xs ch (a * b))) d2 ∧ So exL 0 (a * b) d2 ∧ H = []) := by
  have hpos := Nat.mul_le_mul ha.1 hb.1
  have hup := Nat.mul_le_mul ha.2 hb.2
  refine Fn_.intro Try.func22 rfl rfl (by rfl) ?_
  refine CS.seq ?_
  refine CS.region ?_
  refine RS.box rfl (by rfl) (by rfl) ?_
  intro g3
  refine RS.q rfl (QO.assign) ?_
  refine RS.q rfl (QO.assign) ?_
  refine RS.nil ?_
  refine thenC_n ?_
  refine CS.seq ?_
  refine CS.seq ?_
  refine CS.region ?_
  refine RS.q rfl (QO.move) ?_
  refine RS.q rfl (QO.lss (by rfl) (by rfl)) ?_
  refine RS.q rfl (QO.move) ?_
  refine RS.on (dj := 11) rfl (congrArg Value.bool (decide_eq_false (by omega))) ?_
  refine RS.q rfl (QO.move) ?_
  refine RS.on (dj := 11) rfl (congrArg Value.bool (decide_eq_false (by omega))) ?_
  refine RS.q rfl (QO.gtr (by rfl) (by rfl)) ?_
  refine RS.q rfl (QO.pickF (by rfl) (decide_eq_false (by omega)) (by rfl)) ?_
  refine RS.nil ?_
  refine thenC_n ?_
  refine CS.condF (by rfl) (decide_eq_false (by omega)) ?_
  refine CS.skip ?_
  refine thenC_n ?_
  refine CS.seq ?_
  refine CS.region ?_
  first | (refine RS.q rfl (QO.loadB ty26 (by rfl) (by repeat (first | exact List.Mem.head _ | refine List.Mem.tail _ ?_)) (by rfl)) ?_) | (refine RS.q rfl (QO.loadA ty26 (by rfl) (by repeat (first | exact List.Mem.head _ | refine List.Mem.tail _ ?_)) (by rfl) (by rfl)) ?_) | (refine RS.q rfl (QO.loadOA ty26 (by rfl) (by assumption) (by rfl)) ?_)
  refine RS.q rfl (QO.move) ?_
  refine RS.call rfl (by rfl) ok64 (by rfl) (fun w ho => rvals X Y a b A n c xs ch _ hn (hA.own ho) hfr hN hc hcm ha hb h0 h4) ?_
  intro v17 H17 h17
  have hx17 := h17.some (by omega)
  obtain ⟨g17, c17, j17, hv17, hH17, hcp17, hcm17, hln17⟩ := hx17
  subst hv17 hH17
  refine RS.call rfl (by rfl) ok66 (by rfl) (fun w ho => inOrder_ (some ⟨g17, 0, none⟩) (a * b) c17 (chV xs ch (a * b)) _ (chV_len xs ch (a * b)) (FS.blk ho (by repeat (first | exact List.Mem.head _ | refine List.Mem.tail _ ?_))) (by omega) (by omega) (fun x hx => (chV_ok h32 ch (a * b) x hx).1)) ?_
  rintro _ _ ⟨go, cp, jk, d2, rfl, rfl, m2, s2⟩
  refine RS.q rfl (QO.assign) ?_
  refine RS.nil ?_
  refine thenC_n ?_
  refine CS.seq ?_
  refine CS.region ?_
  refine RS.q rfl (QO.move) ?_
  refine RS.q rfl (QO.move) ?_
  refine RS.q rfl (QO.lenS Try.underlying24 (by rfl)) ?_
  have hmp : (a * b - 1) * p ≤ 65536 * 100 := Nat.mul_le_mul (by omega) hp
  have hmc : (((a * b - 1) * p : Nat) : Int) = ((a * b - 1 : Nat) : Int) * (p : Int) := Int.natCast_mul ..
  have hrk := rk_lt (N := a * b) (p := p) (by omega) hp
  first | (refine RS.qv rfl (QO.sub (by rfl) (by rfl) (by omega) (by omega)) (congrArg iv (show ((a * b : Nat) : Int) - 1 = ((a * b - 1 : Nat) : Int) by omega)) ?_) | (refine RS.qv rfl (QO.ibin (by rfl) (by rfl) trivial) (congrArg iv (show ((a * b : Nat) : Int) - 1 = ((a * b - 1 : Nat) : Int) by omega)) ?_)
  refine RS.q rfl (QO.move) ?_
  first | (refine RS.qv rfl (QO.mul (by rfl) (by rfl) (by omega) (by omega)) (congrArg iv hmc.symm) ?_) | (refine RS.qv rfl (QO.ibin (by rfl) (by rfl) trivial) (congrArg iv hmc.symm) ?_)
  refine RS.qv rfl (QO.quo (by rfl) (by rfl) (by omega) (by omega) (by omega)) (congrArg iv (tdivQ ((a * b - 1) * p) 100)) ?_
  first | (refine RS.q rfl (QO.idx0 Try.underlying24 ty29 (by rfl) (by rfl) (by rfl) (by omega)) ?_) | (refine RS.q rfl (QO.idxn Try.underlying24 ty29 (by rfl) (by rfl) (by rfl) (by omega)) ?_) | (refine RS.q rfl (QO.idx1 Try.underlying24 ty29 (by rfl) (by rfl) (by omega) (by omega)) ?_)
  refine RS.q rfl (QO.load ty29 (by rfl) (by repeat (first | exact List.Mem.head _ | refine List.Mem.tail _ ?_)) (fl_at (i := ((a * b - 1) * p / 100)) hrk)) ?_
  refine RS.q rfl (QO.assign) ?_
  refine RS.q rfl (QO.assign) ?_
  refine RS.nil ?_
  refine thenC_n ?_
  refine CS.ret ?_
  refine retQ.mk (H' := []) (.inr rfl) (RVs.tmp (by rfl) (RVs.tmp (by rfl) RVs.nil)) (List.nil_sublist _) ?_
  exact ⟨d2, rfl, m2, s2, rfl⟩

set_option maxHeartbeats 4000000 in
set_option maxRecDepth 100000 in
theorem pRank (X Y : Int) (a b : Nat) (A : Option Addr) (n c : Nat) (xs : List Nat) (ch : Int) (W : World) (hn : xs.length = n) (hA : FS W A xs) (hfr : frErr X Y (a : Int) (b : Int) n = 0) (hN : n = 4 * (a * b)) (hc : n ≤ c) (hcm : c ≤ maxLen) (ha : 1 ≤ a ∧ a ≤ 256) (hb : 1 ≤ b ∧ b ≤ 256) (h32 : ∀ x ∈ xs, x < 4294967296) (h0 : 0 ≤ ch) (h4 : ch ≤ 4) (p : Nat) (hp : p ≤ 100) : Fn_ Try.prog 16 #[.agg #[iv X, iv Y, iv (a : Int), iv (b : Int), .slice A n c], iv ch, iv (p : Int)] W (fun v H => ∃ d2, v = .tuple #[flt (cl (d2 ((a * b - 1) * p / 100))), iv 0] ∧ Mv (a * b) 0 (a * b) (gd (chV xs ch (a * b))) d2 ∧ So exL 0 (a * b) d2 ∧ H = []) := by
  have hpos := Nat.mul_le_mul ha.1 hb.1
  have hup := Nat.mul_le_mul ha.2 hb.2
  refine Fn_.intro Try.func16 rfl rfl (by rfl) ?_
  refine CS.seq ?_
  refine CS.region ?_
  refine RS.box rfl (by rfl) (by rfl) ?_
  intro g3
  refine RS.q rfl (QO.assign) ?_
  refine RS.q rfl (QO.assign) ?_
  refine RS.nil ?_
  refine thenC_n ?_
  refine CS.seq ?_
  refine CS.region ?_
  first | (refine RS.q rfl (QO.loadB ty26 (by rfl) (by repeat (first | exact List.Mem.head _ | refine List.Mem.tail _ ?_)) (by rfl)) ?_) | (refine RS.q rfl (QO.loadA ty26 (by rfl) (by repeat (first | exact List.Mem.head _ | refine List.Mem.tail _ ?_)) (by rfl) (by rfl)) ?_) | (refine RS.q rfl (QO.loadOA ty26 (by rfl) (by assumption) (by rfl)) ?_)
  refine RS.q rfl (QO.move) ?_
  refine RS.call rfl (by rfl) ok50 (by rfl) (fun w ho => vals_ X Y a b A n c xs ch _ hn (hA.own ho) hfr hN hc hcm ha hb h0 h4) ?_
  rintro _ _ ⟨gv, rfl, rfl⟩
  refine RS.q rfl (QO.move) ?_
  refine RS.q rfl (QO.extract (by rfl) (by rfl)) ?_
  refine RS.q rfl (QO.extract (by rfl) (by rfl)) ?_
  refine RS.q rfl (QO.assign) ?_
  refine RS.q rfl (QO.assign) ?_
  refine RS.nil ?_
  refine thenC_n ?_
  refine CS.seq ?_
  refine CS.seq ?_
  refine CS.region ?_
  refine RS.q rfl (QO.move) ?_
  refine RS.q rfl (QO.neq (by rfl) (by rfl)) ?_
  refine RS.nil ?_
  refine thenC_n ?_
  refine CS.condF (by rfl) rfl ?_
  refine CS.skip ?_
  refine thenC_n ?_
  refine CS.seq ?_
  refine CS.seq ?_
  refine CS.region ?_
  refine RS.q rfl (QO.move) ?_
  refine RS.q rfl (QO.lss (by rfl) (by rfl)) ?_
  refine RS.q rfl (QO.move) ?_
  refine RS.on (dj := 21) rfl (congrArg Value.bool (decide_eq_false (by omega))) ?_
  refine RS.q rfl (QO.move) ?_
  refine RS.on (dj := 21) rfl (congrArg Value.bool (decide_eq_false (by omega))) ?_
  refine RS.q rfl (QO.gtr (by rfl) (by rfl)) ?_
  refine RS.q rfl (QO.pickF (by rfl) (decide_eq_false (by omega)) (by rfl)) ?_
  refine RS.nil ?_
  refine thenC_n ?_
  refine CS.condF (by rfl) (decide_eq_false (by omega)) ?_
  refine CS.skip ?_
  refine thenC_n ?_
  refine CS.seq ?_
  refine CS.region ?_
  refine RS.q rfl (QO.move) ?_
  have hfg : (chV xs ch (a * b)).map flt = fl (gd (chV xs ch (a * b))) (a * b) [] := by
    have h9 := fl_gd (chV xs ch (a * b)) []
    rw [(chV_len xs ch (a * b)), List.append_nil] at h9
    exact h9.symm
  refine RS.blkEq (g := gv) hfg ?_
  refine RS.callH (⟨gv, 29, fl (gd (chV xs ch (a * b))) (a * b) []⟩ :: [⟨g3, 26, [iv X, iv Y, iv (a : Int), iv (b : Int), .slice A n c]⟩]) rfl (by rfl) ok56 (by rfl) (by repeat (first | exact List.Sublist.refl _ | exact List.nil_sublist _ | refine List.Sublist.cons_cons _ ?_ | refine List.Sublist.cons _ ?_ | exact Sbp.refl | exact Sbp.nil | refine Sbp.cons (by repeat (first | exact Rem.head | apply Rem.tail)) ?_ | exact Sbp.app | refine Sbp.skip ?_ | exact List.sublist_append_left _ _ | exact List.sublist_append_right _ _)) (fun w ho => sortStable_ gv (a * b) (a * b) [] [⟨g3, 26, [iv X, iv Y, iv (a : Int), iv (b : Int), .slice A n c]⟩] _ 45 (by omega) exL exO ok45 (fun wd Hd _ x y hx hy => (less_ x y wd hx hy).mono fun v H h => by obtain ⟨r, h1, h2, _, h4⟩ := h; exact ⟨r, h1, h2, h4⟩) (gd (chV xs ch (a * b))) (gd_32 (fun x hx => (chV_ok h32 ch (a * b) x hx).1))) ?_
  rintro _ _ ⟨d2, rfl, m2, s2⟩
  refine RS.nil ?_
  refine thenC_n ?_
  refine CS.seq ?_
  refine CS.region ?_
  refine RS.q rfl (QO.move) ?_
  refine RS.q rfl (QO.move) ?_
  refine RS.q rfl (QO.lenS Try.underlying24 (by rfl)) ?_
  have hmp : (a * b - 1) * p ≤ 65536 * 100 := Nat.mul_le_mul (by omega) hp
  have hmc : (((a * b - 1) * p : Nat) : Int) = ((a * b - 1 : Nat) : Int) * (p : Int) := Int.natCast_mul ..
  have hrk := rk_lt (N := a * b) (p := p) (by omega) hp
  first | (refine RS.qv rfl (QO.sub (by rfl) (by rfl) (by omega) (by omega)) (congrArg iv (show ((a * b : Nat) : Int) - 1 = ((a * b - 1 : Nat) : Int) by omega)) ?_) | (refine RS.qv rfl (QO.ibin (by rfl) (by rfl) trivial) (congrArg iv (show ((a * b : Nat) : Int) - 1 = ((a * b - 1 : Nat) : Int) by omega)) ?_)
  refine RS.q rfl (QO.move) ?_
  first | (refine RS.qv rfl (QO.mul (by rfl) (by rfl) (by omega) (by omega)) (congrArg iv hmc.symm) ?_) | (refine RS.qv rfl (QO.ibin (by rfl) (by rfl) trivial) (congrArg iv hmc.symm) ?_)
  refine RS.qv rfl (QO.quo (by rfl) (by rfl) (by omega) (by omega) (by omega)) (congrArg iv (tdivQ ((a * b - 1) * p) 100)) ?_
  first | (refine RS.q rfl (QO.idx0 Try.underlying24 ty29 (by rfl) (by rfl) (by rfl) (by omega)) ?_) | (refine RS.q rfl (QO.idxn Try.underlying24 ty29 (by rfl) (by rfl) (by rfl) (by omega)) ?_) | (refine RS.q rfl (QO.idx1 Try.underlying24 ty29 (by rfl) (by rfl) (by omega) (by omega)) ?_)
  refine RS.q rfl (QO.load ty29 (by rfl) (by repeat (first | exact List.Mem.head _ | refine List.Mem.tail _ ?_)) (fl_at (i := ((a * b - 1) * p / 100)) hrk)) ?_
  refine RS.call rfl (by rfl) ok57 (by rfl) (fun w ho => clean _ _) ?_
  rintro _ _ ⟨rfl, rfl⟩
  refine RS.q rfl (QO.assign) ?_
  refine RS.q rfl (QO.assign) ?_
  refine RS.nil ?_
  refine thenC_n ?_
  refine CS.ret ?_
  refine retQ.mk (H' := []) (.inr rfl) (RVs.tmp (by rfl) (RVs.tmp (by rfl) RVs.nil)) (List.nil_sublist _) ?_
  exact ⟨d2, rfl, m2, s2, rfl⟩

end Go.Proofs.Ytapcgokcfmklbaa

namespace Go.Proofs.Ytapcgokcfmklbaa
open Go Go.Proofs Go.RowKit

theorem ok111 : callOK Try.prog 111 = true := by kernel_rfl

theorem slcN {A : Option Addr} {n n' c : Nat} (h : n = n') : Value.slice A n c = .slice A n' c := by rw [h]
def num1 (x : Nat) : Bool := !nan32 x
theorem FS.fl {W w : World} {H : HL} {g n : Nat} {t : TypeId} {xs : List Nat} {junk : List Value} (ho : Own W w H) (hm : (⟨g, t, fl (gd xs) n junk⟩ : B) ∈ H) (hn : xs.length = n) : FS w (some ⟨g, 0, none⟩) xs := by
  subst hn
  rw [fl_gd] at hm
  exact FS.blk ho hm
theorem lst_snoc (d : Nat → Nat) (n : Nat) : lst d (n + 1) = lst d n ++ [d n] := by
  unfold lst; rw [List.range_succ]; simp
theorem lst_upd (d : Nat → Nat) (i v : Nat) : lst (updD d i v) i = lst d i := by
  unfold lst
  refine List.map_congr_left fun k hk => ?_
  unfold updD
  rw [if_neg (by have := List.mem_range.1 hk; omega)]
theorem take_gd {xs : List Nat} {j : Nat} (h : j < xs.length) : xs.take (j + 1) = xs.take j ++ [gd xs j] := by
  rw [List.take_add_one, gd_at h]; rfl
theorem filt_all {xs : List Nat} : ∀ k, k ≤ xs.length → (∀ j, j < k → nan32 (gd xs j) = false) → (xs.take k).filter num1 = lst (gd xs) k
  | 0, _, _ => rfl
  | k + 1, h, hz => by
    rw [take_gd (by omega), List.filter_append, filt_all k (by omega) (fun j hj => hz j (by omega)), lst_snoc]
    have : num1 (gd xs k) = true := by unfold num1; rw [hz k (by omega)]; rfl
    simp [this]
theorem filt_nan {xs : List Nat} {j : Nat} (h : j < xs.length) (hz : nan32 (gd xs j) = true) : (xs.take (j + 1)).filter num1 = (xs.take j).filter num1 := by
  have : num1 (gd xs j) = false := by unfold num1; rw [hz]; rfl
  rw [take_gd h, List.filter_append]
  simp [this]
theorem filt_num {xs : List Nat} {j : Nat} (h : j < xs.length) (hz : nan32 (gd xs j) = false) : (xs.take (j + 1)).filter num1 = (xs.take j).filter num1 ++ [gd xs j] := by
  have : num1 (gd xs j) = true := by unfold num1; rw [hz]; rfl
  rw [take_gd h, List.filter_append]
  simp [this]
theorem fl_take (d : Nat → Nat) {n i : Nat} (junk : List Value) (h : i ≤ n) : (fl d n junk).take i = (lst d i).map flt := by
  unfold fl
  rw [List.take_append_of_le_length (by rw [List.length_map, lst_len]; exact h), ← List.map_take]
  congr 1
  unfold lst
  rw [← List.map_take, List.take_range, Nat.min_eq_left h]

set_option maxRecDepth 100000 in
theorem ext1 (x : Nat) (W : World) : Fn_ Try.prog 53 #[flt x] W (fun v H => v = .bool (nan32 x) ∧ H = []) := by
  refine Fn_.intro Try.func53 rfl rfl (by rfl) ?_
  refine CS.seq ?_
  refine CS.region ?_
  refine RS.q rfl (QO.assign) ?_
  refine RS.nil ?_
  refine thenC_n ?_
  refine CS.seq ?_
  refine CS.region ?_
  refine RS.q rfl (QO.move) ?_
  refine RS.q rfl (QO.move) ?_
  refine RS.q rfl (QO.fcmp32 (by rfl) (by rfl) (by simp)) ?_
  refine RS.q rfl (QO.assign) ?_
  refine RS.nil ?_
  refine thenC_n ?_
  refine CS.ret ?_
  refine retQ.mk (H' := []) (.inr rfl) (RVs.tmp (by rfl) RVs.nil) (List.nil_sublist _) ?_
  exact ⟨congrArg Value.bool (fneq_self x), rfl⟩

set_option maxRecDepth 100000 in
theorem rext1 (x : Nat) (W : World) : Fn_ Try.prog 65 #[flt x] W (fun v H => v = .bool (nan32 x) ∧ H = []) := by
  refine Fn_.intro Try.func65 rfl rfl (by rfl) ?_
  refine CS.seq ?_
  refine CS.region ?_
  refine RS.q rfl (QO.assign) ?_
  refine RS.nil ?_
  refine thenC_n ?_
  refine CS.seq ?_
  refine CS.region ?_
  refine RS.q rfl (QO.move) ?_
  refine RS.q rfl (QO.move) ?_
  refine RS.q rfl (QO.fcmp32 (by rfl) (by rfl) (by simp)) ?_
  refine RS.q rfl (QO.assign) ?_
  refine RS.nil ?_
  refine thenC_n ?_
  refine CS.ret ?_
  refine retQ.mk (H' := []) (.inr rfl) (RVs.tmp (by rfl) RVs.nil) (List.nil_sublist _) ?_
  exact ⟨congrArg Value.bool (fneq_self x), rfl⟩

set_option maxHeartbeats 4000000 in
set_option maxRecDepth 100000 in
theorem indexF (A : Option Addr) (n c : Nat) (xs : List Nat) (W : World) (hn : xs.length = n) (hA : FS W A xs) (hn0 : 0 < n) (hm : n ≤ 1000000) (fc : FuncId) (hok : callOK Try.prog fc = true) (hf : ∀ wd Hd, Own W wd Hd → ∀ x : Nat, Fn_ Try.prog fc #[flt x] wd (fun v H => v = .bool (nan32 x) ∧ H = [])) : Fn_ Try.prog 111 #[.slice A n c, .func (.func fc) #[] #[]] W (fun v H => ((∃ k : Nat, k < n ∧ v = iv (k : Int) ∧ nan32 (gd xs k) = true ∧ ∀ j, j < k → nan32 (gd xs j) = false) ∨ (v = iv (-1) ∧ ∀ j, j < n → nan32 (gd xs j) = false)) ∧ H = []) := by
  have hx0 := hA (by omega)
  obtain ⟨bS, oS, hAA, hcS⟩ := hx0
  subst hAA
  refine Fn_.intro Try.func111 rfl rfl (by rfl) ?_
  refine CS.seq ?_
  refine CS.region ?_
  refine RS.q rfl (QO.assign) ?_
  refine RS.nil ?_
  refine thenC_n ?_
  refine CS.seq ?_
  refine CS.seq ?_
  refine CS.region ?_
  refine RS.q rfl (QO.move) ?_
  refine RS.q rfl (QO.lenS Try.underlying24 (by rfl)) ?_
  refine RS.q rfl (QO.move) ?_
  refine RS.nil ?_
  refine thenC_n ?_
  refine CS.block ?_
  refine CS.loop (X := Nat) (4 :: 5 :: 8 :: 9 :: 10 :: 11 :: 12 :: 13 :: 14 :: 15 :: 16 :: 17 :: 18 :: []) (fun k => [(8, iv (k : Int))]) (fun k => []) (fun k => k ≤ n ∧ ∀ j, j < k → nan32 (gd xs j) = false) (fun k => n - k) 0 ⟨Nat.zero_le _, fun j hj => absurd hj (Nat.not_lt_zero _)⟩ ?_ ?_ ?_
  · exact (by repeat (first | exact kn_nil | refine kn_cons (by rfl) ?_))
  · exact (by repeat (first | exact List.Sublist.refl _ | exact List.nil_sublist _ | refine List.Sublist.cons_cons _ ?_ | refine List.Sublist.cons _ ?_ | exact Sbp.refl | exact Sbp.nil | refine Sbp.cons (by repeat (first | exact Rem.head | apply Rem.tail)) ?_ | exact Sbp.app | refine Sbp.skip ?_ | exact List.sublist_append_left _ _ | exact List.sublist_append_right _ _))
  · intro k gj2 hz
    obtain ⟨hk, hz⟩ := hz
    refine CS.seq ?_
    refine CS.region ?_
    refine RS.q rfl (QO.lss (by rfl) (by rfl)) ?_
    refine RS.nil ?_
    refine thenC_n ?_
    refine CS.seq ?_
    refine CS.cond (by rfl) (fun hb0 => ?_) (fun hb0 => ?_)
    · have hb0p := of_decide_eq_true hb0
      refine CS.skip ?_
      refine thenC_n ?_
      refine CS.seq ?_
      refine CS.block ?_
      refine CS.seq ?_
      refine CS.region ?_
      refine RS.q rfl (QO.move) ?_
      refine RS.q rfl (QO.assign) ?_
      refine RS.nil ?_
      refine thenC_n ?_
      refine CS.seq ?_
      refine CS.region ?_
      refine RS.q rfl (QO.move) ?_
      refine RS.q rfl (QO.move) ?_
      refine RS.q rfl (QO.move) ?_
      first | (refine RS.q rfl (QO.idx0 Try.underlying24 ty29 (by rfl) (by rfl) (by rfl) (by omega)) ?_) | (refine RS.q rfl (QO.idxn Try.underlying24 ty29 (by rfl) (by rfl) (by rfl) (by omega)) ?_) | (refine RS.q rfl (QO.idx1 Try.underlying24 ty29 (by rfl) (by rfl) (by omega) (by omega)) ?_)
      refine RS.q rfl (QO.loadO ty29 (by rfl) (hcS k _ (gd_at (show k < xs.length by omega)))) ?_
      refine RS.call rfl (by rfl) hok (by rfl) (fun w ho => hf w _ ho (gd xs k)) ?_
      rintro _ _ ⟨rfl, rfl⟩
      refine RS.nil ?_
      refine thenC_n ?_
      refine CS.cond (by rfl) (fun hb1 => ?_) (fun hb1 => ?_)
      · refine CS.seq ?_
        refine CS.region ?_
        refine RS.q rfl (QO.move) ?_
        refine RS.q rfl (QO.assign) ?_
        refine RS.nil ?_
        refine thenC_n ?_
        refine CS.ret ?_
        refine blockC_r ?_
        refine thenC_r ?_
        refine loopQ_r ?_
        refine blockC_r ?_
        refine thenC_r ?_
        refine retQ.mk (H' := []) (.inr rfl) (RVs.tmp (by rfl) RVs.nil) (List.nil_sublist _) ?_
        exact ⟨.inl ⟨k, by omega, rfl, hb1, hz⟩, rfl⟩
      · refine CS.skip ?_
        refine blockC_n ?_
        refine thenC_n ?_
        refine CS.region ?_
        first | (refine RS.q rfl (QO.add (by rfl) (by rfl) (by omega) (by omega)) ?_) | (refine RS.q rfl (QO.ibin (by rfl) (by rfl) trivial) ?_)
        refine RS.q rfl (QO.move) ?_
        refine RS.nil ?_
        refine loopQ_n (by intro t ht; repeat (first | with_reducible exact rfl | exact frame_puts ht (frame_mix ht) _ rfl | (refine frame_put rfl ht ?_) | (refine frame_puts ht ?_ _ rfl) | exact frame_mix ht | (refine frame_mix2 rfl ht ?_) | exact rfl)) ?_
        exact ⟨k + 1, ⟨by omega, fun j hj => by
            by_cases e : j = k
            · subst e; exact hb1
            · exact hz j (by omega)⟩, by omega, (by repeat (first | exact kn_nil | refine kn_cons (by rfl) ?_)), (by repeat (first | exact List.Sublist.refl _ | exact List.nil_sublist _ | refine List.Sublist.cons_cons _ ?_ | refine List.Sublist.cons _ ?_ | exact Sbp.refl | exact Sbp.nil | refine Sbp.cons (by repeat (first | exact Rem.head | apply Rem.tail)) ?_ | exact Sbp.app | refine Sbp.skip ?_ | exact List.sublist_append_left _ _ | exact List.sublist_append_right _ _))⟩
    · have hb0p := of_decide_eq_false hb0
      refine CS.exit ?_
      refine thenC_x ?_
      refine loopQ_x ?_
      refine blockC_x ?_
      refine thenC_n ?_
      refine CS.seq ?_
      refine CS.region ?_
      refine RS.q rfl (QO.assign) ?_
      refine RS.nil ?_
      refine thenC_n ?_
      refine CS.ret ?_
      refine retQ.mk (H' := []) (.inr rfl) (RVs.tmp (by rfl) RVs.nil) (List.nil_sublist _) ?_
      exact ⟨.inr ⟨rfl, fun j hj => hz j (by omega)⟩, rfl⟩

theorem idx_none {n : Nat} {xs : List Nat} {v : Value} {H : HL} (hall : ∀ j, j < n → nan32 (gd xs j) = false) (h : ((∃ k : Nat, k < n ∧ v = iv (k : Int) ∧ nan32 (gd xs k) = true ∧ ∀ j, j < k → nan32 (gd xs j) = false) ∨ (v = iv (-1) ∧ ∀ j, j < n → nan32 (gd xs j) = false)) ∧ H = []) : v = iv (-1) ∧ H = [] := by
  obtain ⟨⟨k, h1, _, h3, _⟩ | ⟨h1, _⟩, h2⟩ := h
  · rw [hall k h1] at h3; cases h3
  · exact ⟨h1, h2⟩
theorem idx_some {n q : Nat} {xs : List Nat} {v : Value} {H : HL} (hq : q < n) (hqn : nan32 (gd xs q) = true) (hall : ∀ j, j < q → nan32 (gd xs j) = false) (h : ((∃ k : Nat, k < n ∧ v = iv (k : Int) ∧ nan32 (gd xs k) = true ∧ ∀ j, j < k → nan32 (gd xs j) = false) ∨ (v = iv (-1) ∧ ∀ j, j < n → nan32 (gd xs j) = false)) ∧ H = []) : v = iv (q : Int) ∧ H = [] := by
  obtain ⟨⟨k, _, h1, h3, h4⟩ | ⟨_, h1⟩, h2⟩ := h
  · rcases Nat.lt_trichotomy k q with e | e | e
    · rw [hall k e] at h3; cases h3
    · subst e; exact ⟨h1, h2⟩
    · rw [h4 q e] at hqn; cases hqn
  · rw [h1 q hq] at hqn; cases hqn

set_option maxHeartbeats 4000000 in
set_option maxRecDepth 100000 in
theorem delNone (g n c : Nat) (xs : List Nat) (junk : List Value) (HR : HL) (W : World) (hn : xs.length = n) (hn0 : 0 < n) (hm : n ≤ 1000000) (hc : n ≤ c) (fc : FuncId) (hok : callOK Try.prog fc = true) (hf : ∀ wd Hd, Own W wd Hd → ∀ x : Nat, Fn_ Try.prog fc #[flt x] wd (fun v H => v = .bool (nan32 x) ∧ H = [])) (hall : ∀ j, j < n → nan32 (gd xs j) = false) : FnH Try.prog 51 #[.slice (some ⟨g, 0, none⟩) n c, .func (.func fc) #[] #[]] W (⟨g, 29, fl (gd xs) n junk⟩ :: HR) (fun v H => ∃ junk2, v = .slice (some ⟨g, 0, none⟩) (xs.filter num1).length c ∧ H = ⟨g, 29, (xs.filter num1).map flt ++ junk2⟩ :: HR) := by
  refine FnH.intro Try.func51 rfl rfl (by rfl) ?_
  refine CS.seq ?_
  refine CS.region ?_
  refine RS.q rfl (QO.assign) ?_
  refine RS.nil ?_
  refine thenC_n ?_
  refine CS.seq ?_
  refine CS.region ?_
  refine RS.q rfl (QO.move) ?_
  refine RS.q rfl (QO.move) ?_
  refine RS.call rfl (by rfl) ok111 (by rfl) (fun w ho => (indexF (some ⟨g, 0, none⟩) n c xs _ hn (FS.fl ho (by repeat (first | exact List.Mem.head _ | refine List.Mem.tail _ ?_)) hn) hn0 hm fc hok (fun wd Hd h2 x => hf wd _ (ho.call h2) x)).mono (fun v H h => idx_none hall h)) ?_
  rintro _ _ ⟨rfl, rfl⟩
  refine RS.q rfl (QO.assign) ?_
  refine RS.nil ?_
  refine thenC_n ?_
  refine CS.seq ?_
  refine CS.seq ?_
  refine CS.region ?_
  refine RS.q rfl (QO.move) ?_
  refine RS.q rfl (QO.eql (by rfl) (by rfl)) ?_
  refine RS.nil ?_
  refine thenC_n ?_
  refine CS.condT (by rfl) rfl ?_
  refine CS.seq ?_
  refine CS.region ?_
  refine RS.q rfl (QO.move) ?_
  refine RS.q rfl (QO.assign) ?_
  refine RS.nil ?_
  refine thenC_n ?_
  refine CS.ret ?_
  refine thenC_r ?_
  refine retQ.mk (H' := ⟨g, 29, fl (gd xs) n junk⟩ :: HR) (.inr rfl) (RVs.tmp (by rfl) RVs.nil) (by repeat (first | exact List.Sublist.refl _ | exact List.nil_sublist _ | refine List.Sublist.cons_cons _ ?_ | refine List.Sublist.cons _ ?_ | exact Sbp.refl | exact Sbp.nil | refine Sbp.cons (by repeat (first | exact Rem.head | apply Rem.tail)) ?_ | exact Sbp.app | refine Sbp.skip ?_ | exact List.sublist_append_left _ _ | exact List.sublist_append_right _ _)) ?_
  have h9 := filt_all (xs := xs) xs.length (Nat.le_refl _) (by rw [hn]; exact hall)
  rw [List.take_length, lst_gd] at h9
  exact ⟨junk, slcN (by rw [h9, hn]), by rw [h9, ← fl_gd, hn]⟩

set_option maxHeartbeats 4000000 in
set_option maxRecDepth 100000 in
theorem delSome (g n c : Nat) (xs : List Nat) (junk : List Value) (HR : HL) (W : World) (hn : xs.length = n) (hn0 : 0 < n) (hm : n ≤ 1000000) (hc : n ≤ c) (fc : FuncId) (hok : callOK Try.prog fc = true) (hf : ∀ wd Hd, Own W wd Hd → ∀ x : Nat, Fn_ Try.prog fc #[flt x] wd (fun v H => v = .bool (nan32 x) ∧ H = [])) (k : Nat) (hk : k < n) (hkn : nan32 (gd xs k) = true) (hall : ∀ j, j < k → nan32 (gd xs j) = false) : FnH Try.prog 51 #[.slice (some ⟨g, 0, none⟩) n c, .func (.func fc) #[] #[]] W (⟨g, 29, fl (gd xs) n junk⟩ :: HR) (fun v H => ∃ junk2, v = .slice (some ⟨g, 0, none⟩) (xs.filter num1).length c ∧ H = ⟨g, 29, (xs.filter num1).map flt ++ junk2⟩ :: HR) := by
  refine FnH.intro Try.func51 rfl rfl (by rfl) ?_
  refine CS.seq ?_
  refine CS.region ?_
  refine RS.q rfl (QO.assign) ?_
  refine RS.nil ?_
  refine thenC_n ?_
  refine CS.seq ?_
  refine CS.region ?_
  refine RS.q rfl (QO.move) ?_
  refine RS.q rfl (QO.move) ?_
  refine RS.call rfl (by rfl) ok111 (by rfl) (fun w ho => (indexF (some ⟨g, 0, none⟩) n c xs _ hn (FS.fl ho (by repeat (first | exact List.Mem.head _ | refine List.Mem.tail _ ?_)) hn) hn0 hm fc hok (fun wd Hd h2 x => hf wd _ (ho.call h2) x)).mono (fun v H h => idx_some hk hkn hall h)) ?_
  rintro _ _ ⟨rfl, rfl⟩
  refine RS.q rfl (QO.assign) ?_
  refine RS.nil ?_
  refine thenC_n ?_
  refine CS.seq ?_
  refine CS.seq ?_
  refine CS.region ?_
  refine RS.q rfl (QO.move) ?_
  refine RS.q rfl (QO.eql (by rfl) (by rfl)) ?_
  refine RS.nil ?_
  refine thenC_n ?_
  refine CS.condF (by rfl) (beq_eq_false_iff_ne.2 (show ¬ (k : Int) = -1 by omega)) ?_
  refine CS.skip ?_
  refine thenC_n ?_
  refine CS.seq ?_
  refine CS.seq ?_
  refine CS.region ?_
  refine RS.q rfl (QO.move) ?_
  first | (refine RS.qv rfl (QO.add (by rfl) (by rfl) (by omega) (by omega)) (congrArg iv (show (k : Int) + 1 = ((k + 1 : Nat) : Int) by omega)) ?_) | (refine RS.qv rfl (QO.ibin (by rfl) (by rfl) trivial) (congrArg iv (show (k : Int) + 1 = ((k + 1 : Nat) : Int) by omega)) ?_)
  refine RS.q rfl (QO.assign) ?_
  refine RS.nil ?_
  refine thenC_n ?_
  refine CS.block ?_
  refine CS.loop (X := (Nat → Nat) × Nat × Nat) (5 :: 6 :: 7 :: 16 :: 17 :: 18 :: 19 :: 20 :: 21 :: 22 :: 23 :: 24 :: 25 :: 26 :: 27 :: 28 :: 29 :: 30 :: 31 :: 32 :: 33 :: 34 :: 35 :: []) (fun z => [(5, iv (z.2.1 : Int)), (6, iv (z.2.2 : Int))]) (fun z => ⟨g, 29, fl z.1 n junk⟩ :: HR) (fun z => (z.2.1 < z.2.2 ∧ z.2.2 ≤ n) ∧ lst z.1 z.2.1 = (xs.take z.2.2).filter num1 ∧ ∀ p, z.2.2 ≤ p → z.1 p = gd xs p) (fun z => n - z.2.2) (gd xs, k, k + 1) ⟨(by show k < k + 1 ∧ k + 1 ≤ n; omega), ((filt_nan (by omega) hkn).trans (filt_all k (by omega) hall)).symm, fun p _ => rfl⟩ ?_ ?_ ?_
  · exact (by repeat (first | exact kn_nil | refine kn_cons (by rfl) ?_))
  · exact (by repeat (first | exact List.Sublist.refl _ | exact List.nil_sublist _ | refine List.Sublist.cons_cons _ ?_ | refine List.Sublist.cons _ ?_ | exact Sbp.refl | exact Sbp.nil | refine Sbp.cons (by repeat (first | exact Rem.head | apply Rem.tail)) ?_ | exact Sbp.app | refine Sbp.skip ?_ | exact List.sublist_append_left _ _ | exact List.sublist_append_right _ _))
  · intro z gj5 hz
    obtain ⟨D, i, j⟩ := z
    obtain ⟨hij, hl, hD⟩ := hz
    replace hij : i < j ∧ j ≤ n := hij
    replace hl : lst D i = (xs.take j).filter num1 := hl
    replace hD : ∀ p, j ≤ p → D p = gd xs p := hD
    show CS _ _ _ _ _ (puts (mix _ _ _) [(5, iv (i : Int)), (6, iv (j : Int))]) (⟨g, 29, fl D n junk⟩ :: HR)
    refine CS.seq ?_
    refine CS.seq ?_
    refine CS.region ?_
    refine RS.q rfl (QO.move) ?_
    refine RS.q rfl (QO.move) ?_
    refine RS.q rfl (QO.lenS Try.underlying24 (by rfl)) ?_
    refine RS.q rfl (QO.lss (by rfl) (by rfl)) ?_
    refine RS.nil ?_
    refine thenC_n ?_
    refine CS.cond (by rfl) (fun hb0 => ?_) (fun hb0 => ?_)
    · have hb0p := of_decide_eq_true hb0
      refine CS.skip ?_
      refine thenC_n ?_
      refine CS.seq ?_
      refine CS.block ?_
      refine CS.seq ?_
      refine CS.region ?_
      refine RS.q rfl (QO.move) ?_
      refine RS.q rfl (QO.move) ?_
      first | (refine RS.q rfl (QO.idx0 Try.underlying24 ty29 (by rfl) (by rfl) (by rfl) (by omega)) ?_) | (refine RS.q rfl (QO.idxn Try.underlying24 ty29 (by rfl) (by rfl) (by rfl) (by omega)) ?_) | (refine RS.q rfl (QO.idx1 Try.underlying24 ty29 (by rfl) (by rfl) (by omega) (by omega)) ?_)
      refine RS.q rfl (QO.load ty29 (by rfl) (by repeat (first | exact List.Mem.head _ | refine List.Mem.tail _ ?_)) (fl_at (i := j) (by omega))) ?_
      refine RS.q rfl (QO.assign) ?_
      refine RS.nil ?_
      refine thenC_n ?_
      refine CS.seq ?_
      refine CS.region ?_
      refine RS.q rfl (QO.move) ?_
      refine RS.q rfl (QO.move) ?_
      refine RS.call rfl (by rfl) hok (by rfl) (fun w ho => hf w _ ho (D j)) ?_
      rintro _ _ ⟨rfl, rfl⟩
      refine RS.q rfl (QO.not (by rfl)) ?_
      refine RS.nil ?_
      refine thenC_n ?_
      refine CS.cond (by rfl) (fun hb1 => ?_) (fun hb1 => ?_)
      · have hb1p := Eq.mp (Bool.not_eq_true' _) hb1
        refine CS.seq ?_
        refine CS.region ?_
        refine RS.q rfl (QO.move) ?_
        refine RS.q rfl (QO.move) ?_
        refine RS.q rfl (QO.move) ?_
        first | (refine RS.q rfl (QO.idx0 Try.underlying24 ty29 (by rfl) (by rfl) (by rfl) (by omega)) ?_) | (refine RS.q rfl (QO.idxn Try.underlying24 ty29 (by rfl) (by rfl) (by rfl) (by omega)) ?_) | (refine RS.q rfl (QO.idx1 Try.underlying24 ty29 (by rfl) (by rfl) (by omega) (by omega)) ?_)
        refine RS.store1e ty29 rfl (by rfl) (by rfl) (by rfl) (fl_set (n := n) (i := i) (v := D j) (by omega)) (by repeat (first | exact Upd.head | apply Upd.tail)) (by rw [fl_len]; omega) ?_
        refine RS.nil ?_
        refine thenC_n ?_
        refine CS.region ?_
        refine RS.q rfl (QO.move) ?_
        first | (refine RS.qv rfl (QO.add (by rfl) (by rfl) (by omega) (by omega)) (congrArg iv (show (i : Int) + 1 = ((i + 1 : Nat) : Int) by omega)) ?_) | (refine RS.qv rfl (QO.ibin (by rfl) (by rfl) trivial) (congrArg iv (show (i : Int) + 1 = ((i + 1 : Nat) : Int) by omega)) ?_)
        refine RS.q rfl (QO.assign) ?_
        refine RS.nil ?_
        refine blockC_n ?_
        refine thenC_n ?_
        refine CS.region ?_
        refine RS.q rfl (QO.move) ?_
        first | (refine RS.q rfl (QO.add (by rfl) (by rfl) (by omega) (by omega)) ?_) | (refine RS.q rfl (QO.ibin (by rfl) (by rfl) trivial) ?_)
        refine RS.q rfl (QO.assign) ?_
        refine RS.nil ?_
        refine loopQ_n (by intro t ht; repeat (first | with_reducible exact rfl | exact frame_puts ht (frame_mix ht) _ rfl | (refine frame_put rfl ht ?_) | (refine frame_puts ht ?_ _ rfl) | exact frame_mix ht | (refine frame_mix2 rfl ht ?_) | exact rfl)) ?_
        exact ⟨(updD D i (D j), i + 1, j + 1), ⟨(by show i + 1 < j + 1 ∧ j + 1 ≤ n; omega), (by show lst (updD D i (D j)) (i + 1) = (xs.take (j + 1)).filter num1; rw [lst_snoc, lst_upd, hl, filt_num (by omega) (by rw [← hD j (Nat.le_refl _)]; exact hb1p)]; unfold updD; rw [if_pos rfl, hD j (Nat.le_refl _)]), fun p hp => (by show updD D i (D j) p = gd xs p; unfold updD; rw [if_neg (by have h9 : j + 1 ≤ p := hp; omega)]; exact hD p (by have h9 : j + 1 ≤ p := hp; omega))⟩, by show n - (j + 1) < n - j; omega, (by repeat (first | exact kn_nil | refine kn_cons (by rfl) ?_)), (by repeat (first | exact List.Sublist.refl _ | exact List.nil_sublist _ | refine List.Sublist.cons_cons _ ?_ | refine List.Sublist.cons _ ?_ | exact Sbp.refl | exact Sbp.nil | refine Sbp.cons (by repeat (first | exact Rem.head | apply Rem.tail)) ?_ | exact Sbp.app | refine Sbp.skip ?_ | exact List.sublist_append_left _ _ | exact List.sublist_append_right _ _))⟩
      · have hb1p := Eq.mp (Bool.not_eq_false' _) hb1
        refine CS.skip ?_
        refine blockC_n ?_
        refine thenC_n ?_
        refine CS.region ?_
        refine RS.q rfl (QO.move) ?_
        first | (refine RS.q rfl (QO.add (by rfl) (by rfl) (by omega) (by omega)) ?_) | (refine RS.q rfl (QO.ibin (by rfl) (by rfl) trivial) ?_)
        refine RS.q rfl (QO.assign) ?_
        refine RS.nil ?_
        refine loopQ_n (by intro t ht; repeat (first | with_reducible exact rfl | exact frame_puts ht (frame_mix ht) _ rfl | (refine frame_put rfl ht ?_) | (refine frame_puts ht ?_ _ rfl) | exact frame_mix ht | (refine frame_mix2 rfl ht ?_) | exact rfl)) ?_
        exact ⟨(D, i, j + 1), ⟨(by show i < j + 1 ∧ j + 1 ≤ n; omega), (by show lst D i = (xs.take (j + 1)).filter num1; rw [hl, filt_nan (by omega) (by rw [← hD j (Nat.le_refl _)]; exact hb1p)]), fun p hp => hD p (by have h9 : j + 1 ≤ p := hp; omega)⟩, by show n - (j + 1) < n - j; omega, (by repeat (first | exact kn_nil | refine kn_cons (by rfl) ?_)), (by repeat (first | exact List.Sublist.refl _ | exact List.nil_sublist _ | refine List.Sublist.cons_cons _ ?_ | refine List.Sublist.cons _ ?_ | exact Sbp.refl | exact Sbp.nil | refine Sbp.cons (by repeat (first | exact Rem.head | apply Rem.tail)) ?_ | exact Sbp.app | refine Sbp.skip ?_ | exact List.sublist_append_left _ _ | exact List.sublist_append_right _ _))⟩
    · have hb0p := of_decide_eq_false hb0
      refine CS.exit ?_
      refine thenC_x ?_
      refine loopQ_x ?_
      refine blockC_x ?_
      refine thenC_n ?_
      refine CS.seq ?_
      refine CS.region ?_
      refine RS.q rfl (QO.move) ?_
      refine RS.q rfl (QO.move) ?_
      refine RS.qv rfl (QO.cutLo Try.underlying24 ty29 (by rfl) (by rfl) (by omega) (by omega)) (show Value.slice (cutAt g 0 ((i : Nat) : Int).toNat c 1) (n - ((i : Nat) : Int).toNat) (c - ((i : Nat) : Int).toNat) = .slice (some ⟨g, i, none⟩) ((n - i - 1) + 1) (c - i) from by rw [Int.toNat_natCast, cutAt_eq (by omega), show n - i = (n - i - 1) + 1 by omega]; simp) ?_
      refine RS.clear (k := n - i - 1) (cs := fl D n junk) (cs' := (lst D i).map flt ++ (List.replicate (n - i - 1 + 1) (flt 0) ++ (fl D n junk).drop (i + (n - i - 1 + 1)))) Try.underlying24 ty29 (by rfl) (by rfl) (by repeat (first | exact Upd.head | apply Upd.tail)) (by rw [fl_len]; omega) (by rw [fl_take D junk (by omega), List.append_assoc]) ?_
      refine RS.nil ?_
      refine thenC_n ?_
      refine CS.seq ?_
      refine CS.region ?_
      refine RS.q rfl (QO.move) ?_
      refine RS.q rfl (QO.move) ?_
      refine RS.qv rfl (QO.cutHi Try.underlying24 ty29 (by rfl) (by rfl) (by omega) (by omega)) (show Value.slice (some ⟨g, 0, none⟩) ((i : Nat) : Int).toNat c = .slice (some ⟨g, 0, none⟩) i c from by rw [Int.toNat_natCast]) ?_
      refine RS.q rfl (QO.assign) ?_
      refine RS.nil ?_
      refine thenC_n ?_
      refine CS.ret ?_
      refine retQ.mk (H' := ⟨g, 29, (lst D i).map flt ++ (List.replicate (n - i - 1 + 1) (flt 0) ++ (fl D n junk).drop (i + (n - i - 1 + 1)))⟩ :: HR) (.inr rfl) (RVs.tmp (by rfl) RVs.nil) (by repeat (first | exact List.Sublist.refl _ | exact List.nil_sublist _ | refine List.Sublist.cons_cons _ ?_ | refine List.Sublist.cons _ ?_ | exact Sbp.refl | exact Sbp.nil | refine Sbp.cons (by repeat (first | exact Rem.head | apply Rem.tail)) ?_ | exact Sbp.app | refine Sbp.skip ?_ | exact List.sublist_append_left _ _ | exact List.sublist_append_right _ _)) ?_
      have hjn : j = xs.length := by omega
      have h9 := hl
      rw [hjn, List.take_length] at h9
      have h8 : (xs.filter num1).length = i := by rw [← h9, lst_len]
      exact ⟨_, slcN h8.symm, by rw [← h9]⟩

theorem first_nan (xs : List Nat) : ∀ n, (∀ j, j < n → nan32 (gd xs j) = false) ∨ ∃ k, k < n ∧ nan32 (gd xs k) = true ∧ ∀ j, j < k → nan32 (gd xs j) = false
  | 0 => .inl fun j hj => absurd hj (Nat.not_lt_zero _)
  | n + 1 => by
    rcases first_nan xs n with h | ⟨k, h1, h2, h3⟩
    · cases e : nan32 (gd xs n)
      · exact .inl fun j hj => by
          by_cases e2 : j = n
          · rw [e2]; exact e
          · exact h j (by omega)
      · exact .inr ⟨n, Nat.lt_succ_self _, e, h⟩
    · exact .inr ⟨k, by omega, h2, h3⟩
theorem delF (g n c : Nat) (xs : List Nat) (junk : List Value) (HR : HL) (W : World) (hn : xs.length = n) (hn0 : 0 < n) (hm : n ≤ 1000000) (hc : n ≤ c) (fc : FuncId) (hok : callOK Try.prog fc = true) (hf : ∀ wd Hd, Own W wd Hd → ∀ x : Nat, Fn_ Try.prog fc #[flt x] wd (fun v H => v = .bool (nan32 x) ∧ H = [])) : FnH Try.prog 51 #[.slice (some ⟨g, 0, none⟩) n c, .func (.func fc) #[] #[]] W (⟨g, 29, fl (gd xs) n junk⟩ :: HR) (fun v H => ∃ junk2, v = .slice (some ⟨g, 0, none⟩) (xs.filter num1).length c ∧ H = ⟨g, 29, (xs.filter num1).map flt ++ junk2⟩ :: HR) := by
  rcases first_nan xs n with h | ⟨k, h1, h2, h3⟩
  · exact delNone g n c xs junk HR W hn hn0 hm hc fc hok hf h
  · exact delSome g n c xs junk HR W hn hn0 hm hc fc hok hf k h1 h2 h3

end Go.Proofs.Ytapcgokcfmklbaa

namespace Go.Proofs.Ytapcgokcfmklbaa
open Go Go.Proofs Go.RowKit

theorem ty44 : tyChk Try.prog 44 = some ([.float .f32 0, .float .f32 0, .float .f32 0, .int .i64 0], true, 24) := by kernel_rfl
theorem fo44_0 : fldOff Try.prog 44 0 = some (0, 29) := by kernel_rfl
theorem fo44_1 : fldOff Try.prog 44 1 = some (1, 29) := by kernel_rfl
theorem fo44_2 : fldOff Try.prog 44 2 = some (2, 29) := by kernel_rfl
theorem pl44 : places Try.prog 44 = some #[(0, 1), (1, 1), (2, 1), (3, 1)] := by kernel_rfl
theorem ok46 : callOK Try.prog 46 = true := by kernel_rfl
theorem ok51 : callOK Try.prog 51 = true := by kernel_rfl
theorem ok53 : callOK Try.prog 53 = true := by kernel_rfl
theorem ok54 : callOK Try.prog 54 = true := by kernel_rfl
theorem ok55 : callOK Try.prog 55 = true := by kernel_rfl

def kp (xs : List Nat) (ch : Int) (m : Nat) : List Nat := (chV xs ch m).filter num1
theorem kp_len (xs : List Nat) (ch : Int) (m : Nat) : (kp xs ch m).length ≤ m := Nat.le_trans (List.length_filter_le _ _) (by rw [chV_len]; exact Nat.le_refl _)
theorem kp_ok {xs : List Nat} (h : ∀ x ∈ xs, x < 4294967296) (ch : Int) (m : Nat) : ∀ x ∈ kp xs ch m, x < 4294967296 ∧ cl x = x := fun x hx => chV_ok h ch m x (List.mem_filter.1 hx).1
/-- what an extent says of values -/
def ExT (ks : List Nat) (L G M : Nat) : Prop := (ks = [] ∧ L = 0 ∧ G = 0 ∧ M = 0) ∨
  (∃ i j, i < ks.length ∧ j < ks.length ∧ L = gd ks i ∧ G = gd ks j ∧ M = fo .quo (Go.Proofs.Ytapcgokcfmklbaa.sum ks) (cvF (ks.length : Int)) ∧ (∀ q, q < ks.length → exL (gd ks q) L = false) ∧ ∀ q, q < ks.length → exL G (gd ks q) = false)

set_option maxRecDepth 100000 in
theorem pMean (A : Option Addr) (n c : Nat) (ks : List Nat) (W : World) (hn : ks.length = n) (hc : n ≤ c) (hx : c ≤ maxLen) (hA : FS W A ks) (h1 : 0 < n) : Fn_ Try.prog 46 #[.slice A n c] W (fun v H => v = .tuple #[flt (fo .quo (Go.Proofs.Ytapcgokcfmklbaa.sum ks) (cvF (n : Int))), iv 0] ∧ H = []) := by
  refine Fn_.intro Try.func46 rfl rfl (by rfl) ?_
  refine CS.seq ?_
  refine CS.region ?_
  refine RS.q rfl (QO.assign) ?_
  refine RS.q rfl (QO.assign) ?_
  refine RS.nil ?_
  refine thenC_n ?_
  refine CS.seq ?_
  refine CS.seq ?_
  refine CS.region ?_
  refine RS.q rfl (QO.move) ?_
  refine RS.q rfl (QO.lenS Try.underlying24 (by rfl)) ?_
  refine RS.q rfl (QO.eql (by rfl) (by rfl)) ?_
  refine RS.nil ?_
  refine thenC_n ?_
  refine CS.condF (by rfl) (beq_eq_false_iff_ne.2 (show ¬ (n : Int) = 0 by omega)) ?_
  refine CS.skip ?_
  refine thenC_n ?_
  refine CS.seq ?_
  refine CS.region ?_
  refine RS.q rfl (QO.move) ?_
  refine RS.call rfl (by rfl) ok104 (by rfl) (fun w ho => sum_ ks A n c _ hn hc hx (hA.own ho)) ?_
  rintro _ _ ⟨rfl, rfl⟩
  refine RS.q rfl (QO.move) ?_
  refine RS.q rfl (QO.lenS Try.underlying24 (by rfl)) ?_
  refine RS.q rfl (QO.conv_i64_f32 Try.underlying3 Try.underlying29 (by rfl)) ?_
  refine RS.farith rfl (by rfl) (by rfl) (by simp) ?_
  intro r12 hr12
  refine RS.call rfl (by rfl) ok57 (by rfl) (fun w ho => clean _ _) ?_
  rintro _ _ ⟨rfl, rfl⟩
  refine RS.q rfl (QO.assign) ?_
  refine RS.q rfl (QO.assign) ?_
  refine RS.nil ?_
  refine thenC_n ?_
  refine CS.ret ?_
  refine retQ.mk (H' := []) (.inr rfl) (RVs.tmp (by rfl) (RVs.tmp (by rfl) RVs.nil)) (List.nil_sublist _) ?_
  exact ⟨congrArg (fun q => Value.tuple #[flt q, iv 0]) hr12.cl, rfl⟩

set_option maxHeartbeats 4000000 in
set_option maxRecDepth 100000 in
theorem pExtent (X Y : Int) (a b : Nat) (A : Option Addr) (n c : Nat) (xs : List Nat) (ch : Int) (W : World) (hn : xs.length = n) (hA : FS W A xs) (hfr : frErr X Y (a : Int) (b : Int) n = 0) (hN : n = 4 * (a * b)) (hc : n ≤ c) (hcm : c ≤ maxLen) (ha : 1 ≤ a ∧ a ≤ 256) (hb : 1 ≤ b ∧ b ≤ 256) (h32 : ∀ x ∈ xs, x < 4294967296) (h0 : 0 ≤ ch) (h4 : ch ≤ 4) : Fn_ Try.prog 15 #[.agg #[iv X, iv Y, iv (a : Int), iv (b : Int), .slice A n c], iv ch] W (fun v H => ∃ L G M, v = .tuple #[.agg #[flt L, flt G, flt M, iv ((a * b - (kp xs ch (a * b)).length : Nat) : Int)], iv 0] ∧ ExT (kp xs ch (a * b)) L G M ∧ H = []) := by
  have hpos := Nat.mul_le_mul ha.1 hb.1
  have hup := Nat.mul_le_mul ha.2 hb.2
  have hkl := kp_len xs ch (a * b)
  refine Fn_.intro Try.func15 rfl rfl (by rfl) ?_
  refine CS.seq ?_
  refine CS.region ?_
  refine RS.box rfl (by rfl) (by rfl) ?_
  intro g2
  refine RS.alloc rfl ty44 ?_
  intro g4
  refine RS.q rfl (QO.assign) ?_
  refine RS.nil ?_
  refine thenC_n ?_
  refine CS.seq ?_
  refine CS.region ?_
  first | (refine RS.q rfl (QO.loadB ty26 (by rfl) (by repeat (first | exact List.Mem.head _ | refine List.Mem.tail _ ?_)) (by rfl)) ?_) | (refine RS.q rfl (QO.loadA ty26 (by rfl) (by repeat (first | exact List.Mem.head _ | refine List.Mem.tail _ ?_)) (by rfl) (by rfl)) ?_) | (refine RS.q rfl (QO.loadOA ty26 (by rfl) (by assumption) (by rfl)) ?_)
  refine RS.q rfl (QO.move) ?_
  refine RS.call rfl (by rfl) ok50 (by rfl) (fun w ho => vals_ X Y a b A n c xs ch _ hn (hA.own ho) hfr hN hc hcm ha hb h0 h4) ?_
  rintro _ _ ⟨gv, rfl, rfl⟩
  refine RS.q rfl (QO.move) ?_
  refine RS.q rfl (QO.extract (by rfl) (by rfl)) ?_
  refine RS.q rfl (QO.extract (by rfl) (by rfl)) ?_
  refine RS.q rfl (QO.assign) ?_
  refine RS.q rfl (QO.assign) ?_
  refine RS.nil ?_
  refine thenC_n ?_
  refine CS.seq ?_
  refine CS.seq ?_
  refine CS.region ?_
  refine RS.q rfl (QO.move) ?_
  refine RS.q rfl (QO.neq (by rfl) (by rfl)) ?_
  refine RS.nil ?_
  refine thenC_n ?_
  refine CS.condF (by rfl) rfl ?_
  refine CS.skip ?_
  refine thenC_n ?_
  refine CS.seq ?_
  refine CS.region ?_
  refine RS.q rfl (QO.move) ?_
  refine RS.call rfl (by rfl) ok52 (by rfl) (fun w ho => cloneF (some ⟨gv, 0, none⟩) (a * b) (a * b) (chV xs ch (a * b)) _ (chV_len xs ch (a * b)) (FS.blk' ho (by repeat (first | exact List.Mem.head _ | refine List.Mem.tail _ ?_))) (by omega) (by omega) (fun x hx => (chV_ok h32 ch (a * b) x hx).1)) ?_
  rintro _ _ ⟨gc, cp, jk, rfl, rfl, hcp, hcpm⟩
  refine RS.callH (⟨gc, 29, fl (gd (chV xs ch (a * b))) (a * b) jk⟩ :: [⟨gv, 29, (chV xs ch (a * b)).map flt⟩, ⟨g4, 44, [flt 0, flt 0, flt 0, iv 0]⟩, ⟨g2, 26, [iv X, iv Y, iv (a : Int), iv (b : Int), .slice A n c]⟩]) rfl (by rfl) ok51 (by rfl) (by repeat (first | exact List.Sublist.refl _ | exact List.nil_sublist _ | refine List.Sublist.cons_cons _ ?_ | refine List.Sublist.cons _ ?_ | exact Sbp.refl | exact Sbp.nil | refine Sbp.cons (by repeat (first | exact Rem.head | apply Rem.tail)) ?_ | exact Sbp.app | refine Sbp.skip ?_ | exact List.sublist_append_left _ _ | exact List.sublist_append_right _ _)) (fun w ho => delF gc (a * b) cp (chV xs ch (a * b)) jk [⟨gv, 29, (chV xs ch (a * b)).map flt⟩, ⟨g4, 44, [flt 0, flt 0, flt 0, iv 0]⟩, ⟨g2, 26, [iv X, iv Y, iv (a : Int), iv (b : Int), .slice A n c]⟩] _ (chV_len xs ch (a * b)) (by omega) (by omega) hcp 53 ok53 (fun wd Hd _ x => ext1 x wd)) ?_
  rintro _ _ ⟨jk2, rfl, rfl⟩
  refine RS.q rfl (QO.assign) ?_
  refine RS.nil ?_
  refine thenC_n ?_
  refine CS.seq ?_
  refine CS.region ?_
  refine RS.q rfl (QO.move) ?_
  refine RS.q rfl (QO.lenS Try.underlying24 (by rfl)) ?_
  refine RS.q rfl (QO.move) ?_
  refine RS.qv rfl (QO.lenS Try.underlying24 (by rfl)) (show _ = iv ((kp xs ch (a * b)).length : Int) from rfl) ?_
  first | (refine RS.qv rfl (QO.sub (by rfl) (by rfl) (by omega) (by omega)) (congrArg iv (show ((a * b : Nat) : Int) - ((kp xs ch (a * b)).length : Int) = ((a * b - (kp xs ch (a * b)).length : Nat) : Int) by omega)) ?_) | (refine RS.qv rfl (QO.ibin (by rfl) (by rfl) trivial) (congrArg iv (show ((a * b : Nat) : Int) - ((kp xs ch (a * b)).length : Int) = ((a * b - (kp xs ch (a * b)).length : Nat) : Int) by omega)) ?_)
  refine RS.qv rfl (QO.build ty44 pl44 (by rfl)) (show _ = Value.agg #[flt 0, flt 0, flt 0, iv ((a * b - (kp xs ch (a * b)).length : Nat) : Int)] from rfl) ?_
  refine RS.alloc rfl ty44 ?_
  intro g9
  first | refine RS.storeB ty44 (by rfl) (by rfl) (by rfl) (by rfl) (by rfl) (by repeat (first | exact Upd.head | apply Upd.tail)) (by rfl) ?_ | refine RS.storeP ty44 (by rfl) (by rfl) (by rfl) (by rfl) (by rfl) (by repeat (first | exact Upd.head | apply Upd.tail)) (by rfl) ?_
  refine RS.nil ?_
  refine thenC_n ?_
  refine CS.seq ?_
  refine CS.seq ?_
  refine CS.region ?_
  refine RS.q rfl (QO.move) ?_
  refine RS.qv rfl (QO.lenS Try.underlying24 (by rfl)) (show _ = iv ((kp xs ch (a * b)).length : Int) from rfl) ?_
  refine RS.q rfl (QO.gtr (by rfl) (by rfl)) ?_
  refine RS.nil ?_
  refine thenC_n ?_
  refine CS.cond (by rfl) (fun hb0 => ?_) (fun hb0 => ?_)
  · have hb0p := of_decide_eq_true hb0
    refine CS.seq ?_
    refine CS.region ?_
    refine RS.q rfl (QO.move) ?_
    refine RS.call rfl (by rfl) ok46 (by rfl) (fun w ho => pMean (some ⟨gc, 0, none⟩) (kp xs ch (a * b)).length cp (kp xs ch (a * b)) _ rfl (by omega) hcpm (FS.blk ho (by repeat (first | exact List.Mem.head _ | refine List.Mem.tail _ ?_))) (by omega)) ?_
    rintro _ _ ⟨rfl, rfl⟩
    refine RS.q rfl (QO.move) ?_
    refine RS.q rfl (QO.extract (by rfl) (by rfl)) ?_
    refine RS.q rfl (QO.extract (by rfl) (by rfl)) ?_
    refine RS.q rfl (QO.fieldAddr fo44_2 (by rfl)) ?_
    refine RS.store1 ty29 rfl (by rfl) (by rfl) (by rfl) (by repeat (first | exact Upd.head | apply Upd.tail)) (by first | (simp; done) | (simp; omega) | omega) ?_
    refine RS.nil ?_
    refine thenC_n ?_
    refine CS.region ?_
    refine RS.q rfl (QO.move) ?_
    refine RS.call rfl (by rfl) ok54 (by rfl) (fun w ho => minF (some ⟨gc, 0, none⟩) (kp xs ch (a * b)).length cp (kp xs ch (a * b)) _ rfl (FS.blk ho (by repeat (first | exact List.Mem.head _ | refine List.Mem.tail _ ?_))) (by omega) (by omega) (fun x hx => (kp_ok h32 ch (a * b) x hx).1)) ?_
    rintro _ _ ⟨i0, rfl, hi0, hmin, rfl⟩
    refine RS.q rfl (QO.move) ?_
    refine RS.call rfl (by rfl) ok55 (by rfl) (fun w ho => maxF (some ⟨gc, 0, none⟩) (kp xs ch (a * b)).length cp (kp xs ch (a * b)) _ rfl (FS.blk ho (by repeat (first | exact List.Mem.head _ | refine List.Mem.tail _ ?_))) (by omega) (by omega) (fun x hx => (kp_ok h32 ch (a * b) x hx).1)) ?_
    rintro _ _ ⟨j0, rfl, hj0, hmax, rfl⟩
    refine RS.q rfl (QO.fieldAddr fo44_0 (by rfl)) ?_
    refine RS.store1 ty29 rfl (by rfl) (by rfl) (by rfl) (by repeat (first | exact Upd.head | apply Upd.tail)) (by first | (simp; done) | (simp; omega) | omega) ?_
    refine RS.q rfl (QO.fieldAddr fo44_1 (by rfl)) ?_
    refine RS.store1 ty29 rfl (by rfl) (by rfl) (by rfl) (by repeat (first | exact Upd.head | apply Upd.tail)) (by first | (simp; done) | (simp; omega) | omega) ?_
    refine RS.nil ?_
    refine thenC_n ?_
    refine CS.seq ?_
    refine CS.region ?_
    first | (refine RS.q rfl (QO.loadB ty44 (by rfl) (by repeat (first | exact List.Mem.head _ | refine List.Mem.tail _ ?_)) (by rfl)) ?_) | (refine RS.q rfl (QO.loadA ty44 (by rfl) (by repeat (first | exact List.Mem.head _ | refine List.Mem.tail _ ?_)) (by rfl) (by rfl)) ?_) | (refine RS.q rfl (QO.loadOA ty44 (by rfl) (by assumption) (by rfl)) ?_)
    first | refine RS.storeB ty44 (by rfl) (by rfl) (by rfl) (by rfl) (by rfl) (by repeat (first | exact Upd.head | apply Upd.tail)) (by rfl) ?_ | refine RS.storeP ty44 (by rfl) (by rfl) (by rfl) (by rfl) (by rfl) (by repeat (first | exact Upd.head | apply Upd.tail)) (by rfl) ?_
    refine RS.q rfl (QO.assign) ?_
    refine RS.nil ?_
    refine thenC_n ?_
    refine CS.ret ?_
    refine retQ.mk (H' := []) (.inr rfl) (RVs.cellA ty44 (by rfl) (by repeat (first | exact List.Mem.head _ | refine List.Mem.tail _ ?_)) (by rfl) (RVs.tmp (by rfl) RVs.nil)) (List.nil_sublist _) ?_
    exact ⟨_, _, _, rfl, .inr ⟨i0, j0, hi0, hj0, rfl, rfl, rfl, hmin, hmax⟩, rfl⟩
  · have hb0p := of_decide_eq_false hb0
    refine CS.skip ?_
    refine thenC_n ?_
    refine CS.seq ?_
    refine CS.region ?_
    first | (refine RS.q rfl (QO.loadB ty44 (by rfl) (by repeat (first | exact List.Mem.head _ | refine List.Mem.tail _ ?_)) (by rfl)) ?_) | (refine RS.q rfl (QO.loadA ty44 (by rfl) (by repeat (first | exact List.Mem.head _ | refine List.Mem.tail _ ?_)) (by rfl) (by rfl)) ?_) | (refine RS.q rfl (QO.loadOA ty44 (by rfl) (by assumption) (by rfl)) ?_)
    first | refine RS.storeB ty44 (by rfl) (by rfl) (by rfl) (by rfl) (by rfl) (by repeat (first | exact Upd.head | apply Upd.tail)) (by rfl) ?_ | refine RS.storeP ty44 (by rfl) (by rfl) (by rfl) (by rfl) (by rfl) (by repeat (first | exact Upd.head | apply Upd.tail)) (by rfl) ?_
    refine RS.q rfl (QO.assign) ?_
    refine RS.nil ?_
    refine thenC_n ?_
    refine CS.ret ?_
    refine retQ.mk (H' := []) (.inr rfl) (RVs.cellA ty44 (by rfl) (by repeat (first | exact List.Mem.head _ | refine List.Mem.tail _ ?_)) (by rfl) (RVs.tmp (by rfl) RVs.nil)) (List.nil_sublist _) ?_
    exact ⟨0, 0, 0, rfl, .inl ⟨List.eq_nil_of_length_eq_zero (by omega), rfl, rfl, rfl⟩, rfl⟩

end Go.Proofs.Ytapcgokcfmklbaa

namespace Go.Proofs.Ytapcgokcfmklbaa
open Go Go.RowKit

section
variable {P : Program} {W : World} {H : HL} {e : Env} {x : Operand} {t t' ty : TypeId}
theorem QO.conv_ff {s k : FloatKind} {v d : Nat} (hu : (P.underlying t).isSome = true) (hu' : P.underlying t' = some (.float k)) (hx : ev e x = .float s v) (h : floatToFloatBits s v k = some d) : QO P W H e (.convert t t' x) ty (.float k d) := fun d' pos af gd w _ => by
  have h1 := run_convert_float_float (P := P) (w := w) t t' s k v d hu hu' h
  simp only [execOp, hx, Sem.run_bind, Sem.run_pure]
  simp [h1]
end
/-- the magnitude of a double, in bits -/
def absN (d : Nat) : Nat := (IntKind.u64.wrap ((BitVec.ofInt 64 (d : Int) &&& ~~~ BitVec.ofInt 64 9223372036854775808).toNat : Int)).toNat
def absF (r : Nat) : Option Nat := (floatToFloatBits .f32 r .f64).bind fun d => floatToFloatBits .f64 (absN d) .f32
/-- the pattern -/
def pat (i : Nat) : Nat := cvF (((i * i * 7 + i * 13) % 251 + i : Nat) : Int)
def difR (u v : Nat) : Option Nat := (fop .sub u v).bind absF
/-- how far two singles differ -/
def dif (u v : Nat) : Nat := if cl u = cl v then 0 else cl ((difR u v).getD 0)
def cmpF (p q t : Nat) : Nat := dif (pat (4 * ((3 + t / 9) * 9 + 3 + t / 3 % 3) + t % 3)) (pat (4 * ((1 + q + t / 9) * 9 + 1 + p + t / 3 % 3) + t % 3))
def cmpL (p q n : Nat) : List Nat := (List.range n).map (cmpF p q)
/-- how far the pattern differs from itself, moved -/
def cmpR (p q : Nat) : Nat := fo .quo (sum (cmpL p q 27)) (cvF 27)
theorem cmpR_all : ∀ p : Nat, p < 5 → ∀ q : Nat, q < 5 → nan32 (cmpR p q) = false ∧ (p = 2 ∧ q = 2 → cmpR p q = 0) ∧ (¬ (p = 2 ∧ q = 2) → fcmpB .lss 0 (cmpR p q) = true ∧ fcmpB .lss (cmpR p q) 0 = false) := by decide +kernel
structure TS where
  fnd : Bool
  bx : Int
  bz : Int
  ls : Nat
/-- what is known behind k places, the right one being the k0-th -/
def TInv (k0 : Nat) (dx dz : Int) (k : Nat) (s : TS) : Prop :=
  (k ≤ k0 → s.fnd = decide (0 < k) ∧ (0 < k → fcmpB .lss 0 s.ls = true)) ∧ (k0 < k → s.fnd = true ∧ s.bx = dx ∧ s.bz = dz ∧ s.ls = 0)
theorem TInv.start (k0 : Nat) (dx dz : Int) (s : TS) (h : s.fnd = false) : TInv k0 dx dz 0 s := ⟨fun _ => ⟨h, fun h => by omega⟩, fun h => by omega⟩
theorem TInv.step {px py qx qy k : Nat} {s : TS} (hpx : px < 3) (hpy : py < 3) (hqx : qx < 3) (hqy : qy < 3) (hk : k = 3 * qy + qx) (h : TInv (3 * py + px) ((px : Int) - 1) ((py : Int) - 1) k s) :
    ((!s.fnd) = true ∨ fcmpB .lss (cmpR (qx + 2 - px) (qy + 2 - py)) s.ls = true → TInv (3 * py + px) ((px : Int) - 1) ((py : Int) - 1) (k + 1) ⟨true, (qx : Int) - 1, (qy : Int) - 1, cmpR (qx + 2 - px) (qy + 2 - py)⟩) ∧
    ((!s.fnd) = false → fcmpB .lss (cmpR (qx + 2 - px) (qy + 2 - py)) s.ls = false → TInv (3 * py + px) ((px : Int) - 1) ((py : Int) - 1) (k + 1) s) := by
  obtain ⟨c1, c2, c3⟩ := cmpR_all (qx + 2 - px) (by omega) (qy + 2 - py) (by omega)
  obtain ⟨h1, h2⟩ := h
  refine ⟨fun hu => ⟨fun hk1 => ⟨?_, fun _ => ?_⟩, fun hk1 => ?_⟩, fun hf hu => ⟨fun hk1 => ⟨?_, fun _ => ?_⟩, fun hk1 => ?_⟩⟩
  · exact (decide_eq_true (by omega)).symm
  · exact (c3 (by omega)).1
  · rcases Nat.lt_or_ge (3 * py + px) k with h9 | h9
    · exfalso
      obtain ⟨e1, _, _, e4⟩ := h2 h9
      rw [e1, e4] at hu
      rcases hu with hu | hu
      · cases hu
      · rw [(c3 (by omega)).2] at hu; cases hu
    · have e : qx = px ∧ qy = py := by omega
      refine ⟨rfl, ?_, ?_, c2 (by omega)⟩
      · show (qx : Int) - 1 = _; omega
      · show (qy : Int) - 1 = _; omega
  · have := (h1 (by omega)).1
    rw [decide_eq_true (by omega)]
    cases hs : s.fnd
    · rw [hs] at hf; cases hf
    · rfl
  · rcases Nat.eq_zero_or_pos k with h0 | h0
    · exfalso
      have := (h1 (by omega)).1
      rw [h0] at this
      rw [this] at hf; cases hf
    · exact (h1 (by omega)).2 h0
  · rcases Nat.lt_or_ge (3 * py + px) k with h9 | h9
    · exact h2 h9
    · exfalso
      have e : qx + 2 - px = 2 ∧ qy + 2 - py = 2 := by omega
      rw [c2 e] at hu
      rcases Nat.eq_zero_or_pos k with h0 | h0
      · have := (h1 (by omega)).1
        rw [h0] at this
        rw [this] at hf; cases hf
      · rw [(h1 (by omega)).2 h0] at hu; cases hu
theorem TInv.done {px py : Nat} {dx dz : Int} {s : TS} (hpx : px < 3) (hpy : py < 3) (h : TInv (3 * py + px) dx dz 9 s) : s.fnd = true ∧ s.bx = dx ∧ s.bz = dz ∧ s.ls = 0 := h.2 (by omega)
end Go.Proofs.Ytapcgokcfmklbaa

namespace Go.Proofs.Ytapcgokcfmklbaa
open Go Go.RowKit

def nanD (d : Nat) : Prop := ∃ s f, Ieee.double.read d = .nan s f
theorem cut_nanD (q : Nat) (t : Nat) (hq : q < 4503599627370495) : nanD (t % 2 * 9223372036854775808 + 9218868437227405312 + 1 + q) := by
  have e1 : Ieee.double.signWeight = 9223372036854775808 := by decide
  have e2 : Ieee.double.binade = 4503599627370496 := by decide
  have e3 : Ieee.double.infRung = 9218868437227405312 := by decide
  have h : (t % 2 * 9223372036854775808 + 9218868437227405312 + 1 + q) % 9223372036854775808 = 9218868437227405312 + 1 + q := by omega
  unfold nanD Ieee.Format.read
  simp only [e1, e2, e3, h]
  rw [if_neg (by omega), if_neg (by omega), if_neg (by omega)]
  exact ⟨_, _, rfl⟩
theorem cut64 (x y t : Nat) : nanD ((Question.nanBits .f64 x y).cut t) := by
  have h : (Question.nanBits .f64 x y).cut t = t % 2 * 9223372036854775808 + 9218868437227405312 + 1 + t / 2 % 4503599627370495 := rfl
  rw [h]
  exact cut_nanD _ t (Nat.mod_lt _ (by decide))
theorem cutC64 (x t : Nat) : nanD ((Question.nanConv .f64 x).cut t) := by
  have h : (Question.nanConv .f64 x).cut t = t % 2 * 9223372036854775808 + 9218868437227405312 + 1 + t / 2 % 4503599627370495 := rfl
  rw [h]
  exact cut_nanD _ t (Nat.mod_lt _ (by decide))
theorem cutC32 (x t : Nat) : nan32 ((Question.nanConv .f32 x).cut t) = true := nan_cut x x t
section
variable {P : Program} {W : World} {n : Nat} {ops : Array Oper} {Q : Env → HL → Prop} {rest : List Oper} {e : Env} {H : HL}
variable {d : Tmp} {ty t t' : TypeId} {pos : String} {af : Array Edge} {x y : Operand}
/-- a NaN of 32 bits made one of 64 -/
theorem RS.convN64 {v : Nat} {u : TypeDesc} (hd : Nat.blt d n = true) (hu : P.underlying t = some u) (hu' : P.underlying t' = some (.float .f64)) (hx : ev e x = .float .f32 v) (h : nan32 v = true)
    (k : ∀ r, nanD r → RS P W n ops Q rest (put e d (.float .f64 r)) H) : RS P W n ops Q (⟨some d, .convert t t' x, ty, pos, af, none⟩ :: rest) e H := by
  refine RS.step (d := some d) hd fun w ho => ?_
  obtain ⟨s, f, hr⟩ := read_nan h
  have hr' : FloatKind.f32.decode v = .nan s f := hr
  refine ⟨.float .f64 ((Question.nanConv .f64 v).cut (w.tape w.drawn (.nanConv .f64 v))), w.drew, H, ?_, ho.drew, k _ (cutC64 v _)⟩
  cases u <;> simp [execOp, hx, convert, run_underlying hu, run_underlying hu', Conv.floatToFloat, hr', run_choose, Question.forced] <;> rfl
/-- and back -/
theorem RS.convN32 {v : Nat} {u : TypeDesc} (hd : Nat.blt d n = true) (hu : P.underlying t = some u) (hu' : P.underlying t' = some (.float .f32)) (hx : ev e x = .float .f64 v) (h : nanD v)
    (k : ∀ r, nan32 r = true → RS P W n ops Q rest (put e d (.float .f32 r)) H) : RS P W n ops Q (⟨some d, .convert t t' x, ty, pos, af, none⟩ :: rest) e H := by
  refine RS.step (d := some d) hd fun w ho => ?_
  obtain ⟨s, f, hr⟩ := h
  have hr' : FloatKind.f64.decode v = .nan s f := hr
  refine ⟨.float .f32 ((Question.nanConv .f32 v).cut (w.tape w.drawn (.nanConv .f32 v))), w.drew, H, ?_, ho.drew, k _ (cutC32 v _)⟩
  cases u <;> simp [execOp, hx, convert, run_underlying hu, run_underlying hu', Conv.floatToFloat, hr', run_choose, Question.forced] <;> rfl
/-- a quotient of a NaN of 64 bits -/
theorem RS.quoN64 {i j : Nat} (hd : Nat.blt d n = true) (hx : ev e x = .float .f64 i) (hy : ev e y = .float .f64 j) (h : nanD i)
    (k : ∀ r, nanD r → RS P W n ops Q rest (put e d (.float .f64 r)) H) : RS P W n ops Q (⟨some d, .binOp .quo t x y t', ty, pos, af, none⟩ :: rest) e H := by
  refine RS.step (d := some d) hd fun w ho => ?_
  obtain ⟨s, f, hr⟩ := h
  have hn : Ieee.double.div i j = none := by
    unfold Ieee.Format.div
    rw [hr]
    rfl
  have h1 : (eqGuard .quo t x y (.float .f64 i) (.float .f64 j)).run P w = .ok () w := by simp [eqGuard]
  refine ⟨.float .f64 ((Question.nanBits .f64 i j).cut (w.tape w.drawn (.nanBits .f64 i j))), w.drew, H, ?_, ho.drew, k _ (cut64 i j _)⟩
  simp [execOp, hx, hy, h1, binOp, Op.floatArith, FloatKind.format, hn, run_choose, Question.forced]
end
/-- a quotient by way of 64 bits -/
def dvD (a b : Nat) : Option Nat := (floatToFloatBits .f32 a .f64).bind fun X => (floatToFloatBits .f32 b .f64).bind fun Y => (Ieee.double.div X Y).bind fun Z => floatToFloatBits .f64 Z .f32
theorem dv_0 : ∀ n : Nat, n < 65 → 0 < n → dvD 0 (cvF (n : Int)) = some (fo .quo 0 (cvF (n : Int))) := by decide +kernel
theorem dv_m0 : ∀ n : Nat, n < 65 → 0 < n → dvD 2147483648 (cvF (n : Int)) = some (fo .quo 2147483648 (cvF (n : Int))) := by decide +kernel
theorem dv_inf : ∀ n : Nat, n < 65 → 0 < n → dvD 2139095040 (cvF (n : Int)) = some (fo .quo 2139095040 (cvF (n : Int))) := by decide +kernel
theorem dv_minf : ∀ n : Nat, n < 65 → 0 < n → dvD 4286578688 (cvF (n : Int)) = some (fo .quo 4286578688 (cvF (n : Int))) := by decide +kernel
theorem dvD_ex {a b s : Nat} (h : dvD a b = some s) : ∃ X Y Z, floatToFloatBits .f32 a .f64 = some X ∧ floatToFloatBits .f32 b .f64 = some Y ∧ Ieee.double.div X Y = some Z ∧ floatToFloatBits .f64 Z .f32 = some s := by
  unfold dvD at h
  obtain ⟨X, h1, h⟩ := Option.bind_eq_some_iff.1 h
  obtain ⟨Y, h2, h⟩ := Option.bind_eq_some_iff.1 h
  obtain ⟨Z, h3, h⟩ := Option.bind_eq_some_iff.1 h
  exact ⟨X, Y, Z, h1, h2, h3, h⟩
end Go.Proofs.Ytapcgokcfmklbaa
