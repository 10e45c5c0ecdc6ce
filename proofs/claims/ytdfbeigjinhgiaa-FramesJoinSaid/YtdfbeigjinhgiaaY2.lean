/-
  Part 2 of what the proof leans on (C1, C2, C3, C4, C5, C6, C8). Conditions: as each theorem says.
-/
import Derived.Test.YtdfbeigjinhgiaaY1
import Derived.Test.YtdfbeigjinhgiaaRows
namespace Go.Proofs.Ytdfbeigjinhgiaa
open Go Go.Proofs Go.RowKit

theorem ty3 : tyChk Try.prog 3 = some ([.int .i64 0], false, 8) := by kernel_rfl
theorem fo23_0 : fldOff Try.prog 23 0 = some (0, 3) := by kernel_rfl
theorem fo23_1 : fldOff Try.prog 23 1 = some (1, 3) := by kernel_rfl
theorem fo23_2 : fldOff Try.prog 23 2 = some (2, 3) := by kernel_rfl
theorem fo23_3 : fldOff Try.prog 23 3 = some (3, 3) := by kernel_rfl
theorem ok14 : callOK Try.prog 14 = true := by kernel_rfl
theorem ok32 : callOK Try.prog 32 = true := by kernel_rfl
theorem ok34 : callOK Try.prog 34 = true := by kernel_rfl
theorem ok33 : callOK Try.prog 33 = true := by kernel_rfl
theorem ok40 : callOK Try.prog 40 = true := by kernel_rfl

theorem ext39 (n : Int) (w : World) : (callFunc 39 [Value.int .u32 n].toArray).run Try.prog w = .ok (.value (.float .f32 n.toNat)) w := by kernel_rfl
theorem ext29 (n : Nat) (w : World) : (callFunc 29 [flt n].toArray).run Try.prog w = .ok (.value (.int .u32 n)) w := by kernel_rfl

set_option maxRecDepth 100000 in
theorem clean (v : Nat) (W : World) : Fn_ Try.prog 32 #[flt v] W (fun v_ H => v_ = flt (cl v) ∧ H = []) := by
  refine Fn_.intro Try.func32 rfl rfl (by rfl) ?_
  refine CS.seq ?_
  refine CS.region ?_
  refine RS.q rfl (QO.assign) ?_
  refine RS.nil ?_
  refine thenC_n ?_
  refine CS.seq ?_
  refine CS.seq ?_
  refine CS.region ?_
  refine RS.q rfl (QO.move) ?_
  refine RS.q rfl (QO.move) ?_
  refine RS.q rfl (QO.fcmp32 (by rfl) (by rfl) (by simp)) ?_
  refine RS.nil ?_
  refine thenC_n ?_
  refine CS.cond (by rfl) (fun hb0 => ?_) (fun hb0 => ?_)
  · refine CS.seq ?_
    refine CS.region ?_
    refine RS.q rfl (QO.ext (by rfl) (ext39 _)) ?_
    refine RS.q rfl (QO.assign) ?_
    refine RS.nil ?_
    refine thenC_n ?_
    refine CS.ret ?_
    refine thenC_r ?_
    refine retQ.mk (H' := []) (.inr rfl) (RVs.tmp (by rfl) RVs.nil) (List.nil_sublist _) ?_
    exact ⟨congrArg flt (cl_nan ((fneq_self _).symm.trans hb0)).symm, rfl⟩
  · refine CS.skip ?_
    refine thenC_n ?_
    refine CS.seq ?_
    refine CS.region ?_
    refine RS.q rfl (QO.move) ?_
    refine RS.q rfl (QO.assign) ?_
    refine RS.nil ?_
    refine thenC_n ?_
    refine CS.ret ?_
    refine retQ.mk (H' := []) (.inr rfl) (RVs.tmp (by rfl) RVs.nil) (List.nil_sublist _) ?_
    exact ⟨congrArg flt (cl_num ((fneq_self _).symm.trans hb0)).symm, rfl⟩

set_option maxRecDepth 100000 in
theorem theNaN (W : World) : Fn_ Try.prog 40 #[] W (fun v H => v = flt 2143289344 ∧ H = []) := by
  refine Fn_.intro Try.func40 rfl rfl (by rfl) ?_
  refine CS.seq ?_
  refine CS.region ?_
  refine RS.q rfl (QO.assign) ?_
  refine RS.nil ?_
  refine thenC_n ?_
  refine CS.seq ?_
  refine CS.region ?_
  refine RS.q rfl (QO.ext (by rfl) (ext39 _)) ?_
  refine RS.q rfl (QO.assign) ?_
  refine RS.nil ?_
  refine thenC_n ?_
  refine CS.ret ?_
  refine retQ.mk (H' := []) (.inr rfl) (RVs.tmp (by rfl) RVs.nil) (List.nil_sublist _) ?_
  exact ⟨rfl, rfl⟩

set_option maxRecDepth 100000 in
theorem fix (v : Nat) (W : World) : Fn_ Try.prog 37 #[flt v] W (fun v_ H => v_ = flt (cl v) ∧ H = []) := by
  refine Fn_.intro Try.func37 rfl rfl (by rfl) ?_
  refine CS.seq ?_
  refine CS.region ?_
  refine RS.q rfl (QO.assign) ?_
  refine RS.nil ?_
  refine thenC_n ?_
  refine CS.seq ?_
  refine CS.seq ?_
  refine CS.region ?_
  refine RS.q rfl (QO.move) ?_
  refine RS.q rfl (QO.move) ?_
  refine RS.q rfl (QO.fcmp32 (by rfl) (by rfl) (by simp)) ?_
  refine RS.nil ?_
  refine thenC_n ?_
  refine CS.cond (by rfl) (fun hb0 => ?_) (fun hb0 => ?_)
  · refine CS.seq ?_
    refine CS.region ?_
    refine RS.call rfl (by rfl) ok40 (by rfl) (fun w ho => theNaN _) ?_
    rintro _ _ ⟨rfl, rfl⟩
    refine RS.q rfl (QO.assign) ?_
    refine RS.nil ?_
    refine thenC_n ?_
    refine CS.ret ?_
    refine thenC_r ?_
    refine retQ.mk (H' := []) (.inr rfl) (RVs.tmp (by rfl) RVs.nil) (List.nil_sublist _) ?_
    exact ⟨congrArg flt (cl_nan ((fneq_self _).symm.trans hb0)).symm, rfl⟩
  · refine CS.skip ?_
    refine thenC_n ?_
    refine CS.seq ?_
    refine CS.region ?_
    refine RS.q rfl (QO.move) ?_
    refine RS.q rfl (QO.assign) ?_
    refine RS.nil ?_
    refine thenC_n ?_
    refine CS.ret ?_
    refine retQ.mk (H' := []) (.inr rfl) (RVs.tmp (by rfl) RVs.nil) (List.nil_sublist _) ?_
    exact ⟨congrArg flt (cl_num ((fneq_self _).symm.trans hb0)).symm, rfl⟩

set_option maxRecDepth 100000 in
theorem bits (x : Nat) (W : World) : Fn_ Try.prog 14 #[flt x] W (fun v H => v = .int .u32 (cl x : Nat) ∧ H = []) := by
  refine Fn_.intro Try.func14 rfl rfl (by rfl) ?_
  refine CS.seq ?_
  refine CS.region ?_
  refine RS.q rfl (QO.assign) ?_
  refine RS.nil ?_
  refine thenC_n ?_
  refine CS.seq ?_
  refine CS.region ?_
  refine RS.q rfl (QO.move) ?_
  refine RS.call rfl (by rfl) ok32 (by rfl) (fun w ho => clean _ _) ?_
  rintro _ _ ⟨rfl, rfl⟩
  refine RS.q rfl (QO.ext (by rfl) (ext29 _)) ?_
  refine RS.q rfl (QO.assign) ?_
  refine RS.nil ?_
  refine thenC_n ?_
  refine CS.ret ?_
  refine retQ.mk (H' := []) (.inr rfl) (RVs.tmp (by rfl) RVs.nil) (List.nil_sublist _) ?_
  exact ⟨rfl, rfl⟩

set_option maxRecDepth 100000 in
theorem landed (W : World) : Fn_ Try.prog 4 #[] W (fun v H => v = .bool true ∧ H = []) := by
  refine Fn_.intro Try.func4 rfl rfl (by rfl) ?_
  refine CS.seq ?_
  refine CS.region ?_
  refine RS.q rfl (QO.assign) ?_
  refine RS.nil ?_
  refine thenC_n ?_
  refine CS.seq ?_
  refine CS.region ?_
  refine RS.call rfl (by rfl) ok14 (by rfl) (fun w ho => bits _ _) ?_
  rintro _ _ ⟨rfl, rfl⟩
  refine RS.q rfl (QO.eql (by rfl) (by rfl)) ?_
  refine RS.q rfl (QO.assign) ?_
  refine RS.nil ?_
  refine thenC_n ?_
  refine CS.ret ?_
  refine retQ.mk (H' := []) (.inr rfl) (RVs.tmp (by rfl) RVs.nil) (List.nil_sublist _) ?_
  exact ⟨congrArg Value.bool (by decide), rfl⟩

def outR (x s : Int) : Bool := decide (x < -1048576) || decide (1048576 - s < x)
def regErr (x y w h : Int) : Int :=
  if w < 1 ∨ 256 < w ∨ h < 1 ∨ 256 < h then 3 else if 16384 < w * h then 4 else if outR x w = true ∨ outR y h = true then 5 else 0
theorem regErr_ok {x y w h : Int} (e : regErr x y w h = 0) : 1 ≤ w ∧ w ≤ 256 ∧ 1 ≤ h ∧ h ≤ 256 ∧ 1 ≤ w * h ∧ w * h ≤ 16384 ∧ 4 * w * h = 4 * (w * h) ∧ -1048576 ≤ x ∧ x + w ≤ 1048576 ∧ -1048576 ≤ y ∧ y + h ≤ 1048576 := by
  unfold regErr at e
  split at e
  · cases e
  · split at e
    · cases e
    · split at e
      · cases e
      · rename_i h1 h2 h3
        have h4 : 1 * 1 ≤ w * h := Int.mul_le_mul (by omega) (by omega) (by omega) (by omega)
        have h5 : 4 * w * h = 4 * (w * h) := Int.mul_assoc ..
        simp only [outR, not_or, Bool.or_eq_true, decide_eq_true_eq] at h3
        omega
theorem mul_small {w h : Int} (h1 : ¬ w < 1) (h2 : ¬ 256 < w) (h3 : ¬ h < 1) (h4 : ¬ 256 < h) : 1 ≤ w * h ∧ w * h ≤ 65536 := by
  have h5 : 1 * 1 ≤ w * h := Int.mul_le_mul (by omega) (by omega) (by omega) (by omega)
  have h6 : w * h ≤ 256 * 256 := Int.mul_le_mul (by omega) (by omega) (by omega) (by omega)
  omega

set_option maxRecDepth 100000 in
theorem out1 (x s : Int) (W : World) (h : 0 ≤ s) (h2 : s ≤ 256) : Fn_ Try.prog 33 #[iv x, iv s] W (fun v H => v = .bool (outR x s) ∧ H = []) := by
  refine Fn_.intro Try.func33 rfl rfl (by rfl) ?_
  refine CS.seq ?_
  refine CS.region ?_
  refine RS.q rfl (QO.assign) ?_
  refine RS.nil ?_
  refine thenC_n ?_
  refine CS.seq ?_
  refine CS.region ?_
  refine RS.q rfl (QO.move) ?_
  refine RS.q rfl (QO.lss (by rfl) (by rfl)) ?_
  refine RS.q rfl (QO.move) ?_
  refine RS.split (dj := 7) (by rfl) (fun hb0 => ?_) (fun hb0 => ?_)
  · have hb0p := of_decide_eq_true hb0
    refine RS.off (dj := 7) rfl (.inl (congrArg Value.bool hb0)) (fun _ => rfl) rfl ?_
    refine RS.off (dj := 7) rfl (.inl (congrArg Value.bool hb0)) (fun _ => rfl) rfl ?_
    refine RS.off (dj := 7) rfl (.inl (congrArg Value.bool hb0)) (fun _ => rfl) rfl ?_
    refine RS.off (dj := 7) rfl (.inl (congrArg Value.bool hb0)) (fun _ => rfl) rfl ?_
    refine RS.q rfl (QO.pickT (by rfl) hb0 (by rfl)) ?_
    refine RS.q rfl (QO.assign) ?_
    refine RS.nil ?_
    refine thenC_n ?_
    refine CS.ret ?_
    refine retQ.mk (H' := []) (.inr rfl) (RVs.tmp (by rfl) RVs.nil) (List.nil_sublist _) ?_
    exact ⟨congrArg Value.bool (by first | (simp [outR]; done) | (simp [outR]; omega)), rfl⟩
  · have hb0p := of_decide_eq_false hb0
    refine RS.on (dj := 7) rfl (congrArg Value.bool hb0) ?_
    refine RS.q rfl (QO.move) ?_
    refine RS.on (dj := 7) rfl (congrArg Value.bool hb0) ?_
    refine RS.q rfl (QO.move) ?_
    refine RS.on (dj := 7) rfl (congrArg Value.bool hb0) ?_
    first | (refine RS.q rfl (QO.sub (by rfl) (by rfl) (by omega) (by omega)) ?_) | (refine RS.q rfl (QO.ibin (by rfl) (by rfl) trivial) ?_)
    refine RS.on (dj := 7) rfl (congrArg Value.bool hb0) ?_
    refine RS.q rfl (QO.gtr (by rfl) (by rfl)) ?_
    refine RS.q rfl (QO.pickF (by rfl) hb0 (by rfl)) ?_
    refine RS.q rfl (QO.assign) ?_
    refine RS.nil ?_
    refine thenC_n ?_
    refine CS.ret ?_
    refine retQ.mk (H' := []) (.inr rfl) (RVs.tmp (by rfl) RVs.nil) (List.nil_sublist _) ?_
    exact ⟨congrArg Value.bool (by first | (simp [outR]; done) | (simp [outR]; omega)), rfl⟩

set_option maxRecDepth 100000 in
theorem checkRegion (x y wi he : Int) (W : World) : Fn_ Try.prog 15 #[.agg #[iv x, iv y, iv wi, iv he]] W (fun v H => v = iv (regErr x y wi he) ∧ H = []) := by
  refine Fn_.intro Try.func15 rfl rfl (by rfl) ?_
  refine CS.seq ?_
  refine CS.region ?_
  refine RS.box rfl (by rfl) (by rfl) ?_
  intro g1
  refine RS.q rfl (QO.assign) ?_
  refine RS.nil ?_
  refine thenC_n ?_
  refine CS.seq ?_
  refine CS.region ?_
  refine RS.q rfl (QO.assign) ?_
  refine RS.nil ?_
  refine thenC_n ?_
  refine CS.seq ?_
  refine CS.block ?_
  refine CS.seq ?_
  refine CS.region ?_
  refine RS.q rfl (QO.fieldAddr fo23_2 (by rfl)) ?_
  first | (refine RS.q rfl (QO.load ty3 (by rfl) (by repeat (first | exact List.Mem.head _ | refine List.Mem.tail _ ?_)) (by rfl)) ?_) | (refine RS.q rfl (QO.loadO ty3 (by rfl) (by assumption)) ?_) | (refine RS.q rfl (QO.load ty3 (by rfl) (by repeat (first | exact List.Mem.head _ | refine List.Mem.tail _ ?_)) (by assumption)) ?_)
  refine RS.q rfl (QO.lss (by rfl) (by rfl)) ?_
  refine RS.q rfl (QO.move) ?_
  refine RS.split (dj := 8) (by rfl) (fun hb0 => ?_) (fun hb0 => ?_)
  · have hb0p := of_decide_eq_true hb0
    refine RS.off (dj := 8) rfl (.inl (congrArg Value.bool hb0)) (fun _ => rfl) rfl ?_
    refine RS.off (dj := 8) rfl (.inl (congrArg Value.bool hb0)) (fun _ => rfl) rfl ?_
    refine RS.off (dj := 8) rfl (.inl (congrArg Value.bool hb0)) (fun _ => rfl) rfl ?_
    refine RS.q rfl (QO.pickT (by rfl) hb0 (by rfl)) ?_
    refine RS.q rfl (QO.move) ?_
    refine RS.off (dj := 13) rfl (.inl (congrArg Value.bool rfl)) (fun _ => rfl) rfl ?_
    refine RS.off (dj := 13) rfl (.inl (congrArg Value.bool rfl)) (fun _ => rfl) rfl ?_
    refine RS.off (dj := 13) rfl (.inl (congrArg Value.bool rfl)) (fun _ => rfl) rfl ?_
    refine RS.q rfl (QO.pickT (by rfl) rfl (by rfl)) ?_
    refine RS.q rfl (QO.move) ?_
    refine RS.off (dj := 18) rfl (.inl (congrArg Value.bool rfl)) (fun _ => rfl) rfl ?_
    refine RS.off (dj := 18) rfl (.inl (congrArg Value.bool rfl)) (fun _ => rfl) rfl ?_
    refine RS.off (dj := 18) rfl (.inl (congrArg Value.bool rfl)) (fun _ => rfl) rfl ?_
    refine RS.q rfl (QO.pickT (by rfl) rfl (by rfl)) ?_
    refine RS.q rfl (QO.assign) ?_
    refine RS.nil ?_
    refine thenC_n ?_
    refine CS.condT (by rfl) rfl ?_
    refine CS.seq ?_
    refine CS.region ?_
    refine RS.q rfl (QO.assign) ?_
    refine RS.nil ?_
    refine thenC_n ?_
    refine CS.ret ?_
    refine blockC_r ?_
    refine thenC_r ?_
    refine retQ.mk (H' := []) (.inr rfl) (RVs.tmp (by rfl) RVs.nil) (List.nil_sublist _) ?_
    exact ⟨congrArg iv (by first | (unfold regErr; simp only [*]; done) | (unfold regErr; simp [*]; done) | (unfold regErr; simp [*]; omega)), rfl⟩
  · have hb0p := of_decide_eq_false hb0
    refine RS.on (dj := 8) rfl (congrArg Value.bool hb0) ?_
    refine RS.q rfl (QO.fieldAddr fo23_2 (by rfl)) ?_
    refine RS.on (dj := 8) rfl (congrArg Value.bool hb0) ?_
    first | (refine RS.q rfl (QO.load ty3 (by rfl) (by repeat (first | exact List.Mem.head _ | refine List.Mem.tail _ ?_)) (by rfl)) ?_) | (refine RS.q rfl (QO.loadO ty3 (by rfl) (by assumption)) ?_) | (refine RS.q rfl (QO.load ty3 (by rfl) (by repeat (first | exact List.Mem.head _ | refine List.Mem.tail _ ?_)) (by assumption)) ?_)
    refine RS.on (dj := 8) rfl (congrArg Value.bool hb0) ?_
    refine RS.q rfl (QO.gtr (by rfl) (by rfl)) ?_
    refine RS.q rfl (QO.pickF (by rfl) hb0 (by rfl)) ?_
    refine RS.q rfl (QO.move) ?_
    refine RS.split (dj := 13) (by rfl) (fun hb1 => ?_) (fun hb1 => ?_)
    · have hb1p := of_decide_eq_true hb1
      refine RS.off (dj := 13) rfl (.inl (congrArg Value.bool hb1)) (fun _ => rfl) rfl ?_
      refine RS.off (dj := 13) rfl (.inl (congrArg Value.bool hb1)) (fun _ => rfl) rfl ?_
      refine RS.off (dj := 13) rfl (.inl (congrArg Value.bool hb1)) (fun _ => rfl) rfl ?_
      refine RS.q rfl (QO.pickT (by rfl) hb1 (by rfl)) ?_
      refine RS.q rfl (QO.move) ?_
      refine RS.off (dj := 18) rfl (.inl (congrArg Value.bool rfl)) (fun _ => rfl) rfl ?_
      refine RS.off (dj := 18) rfl (.inl (congrArg Value.bool rfl)) (fun _ => rfl) rfl ?_
      refine RS.off (dj := 18) rfl (.inl (congrArg Value.bool rfl)) (fun _ => rfl) rfl ?_
      refine RS.q rfl (QO.pickT (by rfl) rfl (by rfl)) ?_
      refine RS.q rfl (QO.assign) ?_
      refine RS.nil ?_
      refine thenC_n ?_
      refine CS.condT (by rfl) rfl ?_
      refine CS.seq ?_
      refine CS.region ?_
      refine RS.q rfl (QO.assign) ?_
      refine RS.nil ?_
      refine thenC_n ?_
      refine CS.ret ?_
      refine blockC_r ?_
      refine thenC_r ?_
      refine retQ.mk (H' := []) (.inr rfl) (RVs.tmp (by rfl) RVs.nil) (List.nil_sublist _) ?_
      exact ⟨congrArg iv (by first | (unfold regErr; simp only [*]; done) | (unfold regErr; simp [*]; done) | (unfold regErr; simp [*]; omega)), rfl⟩
    · have hb1p := of_decide_eq_false hb1
      refine RS.on (dj := 13) rfl (congrArg Value.bool hb1) ?_
      refine RS.q rfl (QO.fieldAddr fo23_3 (by rfl)) ?_
      refine RS.on (dj := 13) rfl (congrArg Value.bool hb1) ?_
      first | (refine RS.q rfl (QO.load ty3 (by rfl) (by repeat (first | exact List.Mem.head _ | refine List.Mem.tail _ ?_)) (by rfl)) ?_) | (refine RS.q rfl (QO.loadO ty3 (by rfl) (by assumption)) ?_) | (refine RS.q rfl (QO.load ty3 (by rfl) (by repeat (first | exact List.Mem.head _ | refine List.Mem.tail _ ?_)) (by assumption)) ?_)
      refine RS.on (dj := 13) rfl (congrArg Value.bool hb1) ?_
      refine RS.q rfl (QO.lss (by rfl) (by rfl)) ?_
      refine RS.q rfl (QO.pickF (by rfl) hb1 (by rfl)) ?_
      refine RS.q rfl (QO.move) ?_
      refine RS.split (dj := 18) (by rfl) (fun hb2 => ?_) (fun hb2 => ?_)
      · have hb2p := of_decide_eq_true hb2
        refine RS.off (dj := 18) rfl (.inl (congrArg Value.bool hb2)) (fun _ => rfl) rfl ?_
        refine RS.off (dj := 18) rfl (.inl (congrArg Value.bool hb2)) (fun _ => rfl) rfl ?_
        refine RS.off (dj := 18) rfl (.inl (congrArg Value.bool hb2)) (fun _ => rfl) rfl ?_
        refine RS.q rfl (QO.pickT (by rfl) hb2 (by rfl)) ?_
        refine RS.q rfl (QO.assign) ?_
        refine RS.nil ?_
        refine thenC_n ?_
        refine CS.condT (by rfl) rfl ?_
        refine CS.seq ?_
        refine CS.region ?_
        refine RS.q rfl (QO.assign) ?_
        refine RS.nil ?_
        refine thenC_n ?_
        refine CS.ret ?_
        refine blockC_r ?_
        refine thenC_r ?_
        refine retQ.mk (H' := []) (.inr rfl) (RVs.tmp (by rfl) RVs.nil) (List.nil_sublist _) ?_
        exact ⟨congrArg iv (by first | (unfold regErr; simp only [*]; done) | (unfold regErr; simp [*]; done) | (unfold regErr; simp [*]; omega)), rfl⟩
      · have hb2p := of_decide_eq_false hb2
        refine RS.on (dj := 18) rfl (congrArg Value.bool hb2) ?_
        refine RS.q rfl (QO.fieldAddr fo23_3 (by rfl)) ?_
        refine RS.on (dj := 18) rfl (congrArg Value.bool hb2) ?_
        first | (refine RS.q rfl (QO.load ty3 (by rfl) (by repeat (first | exact List.Mem.head _ | refine List.Mem.tail _ ?_)) (by rfl)) ?_) | (refine RS.q rfl (QO.loadO ty3 (by rfl) (by assumption)) ?_) | (refine RS.q rfl (QO.load ty3 (by rfl) (by repeat (first | exact List.Mem.head _ | refine List.Mem.tail _ ?_)) (by assumption)) ?_)
        refine RS.on (dj := 18) rfl (congrArg Value.bool hb2) ?_
        refine RS.q rfl (QO.gtr (by rfl) (by rfl)) ?_
        refine RS.q rfl (QO.pickF (by rfl) hb2 (by rfl)) ?_
        refine RS.q rfl (QO.assign) ?_
        refine RS.nil ?_
        refine thenC_n ?_
        refine CS.cond (by rfl) (fun hb3 => ?_) (fun hb3 => ?_)
        · have hb3p := of_decide_eq_true hb3
          refine CS.seq ?_
          refine CS.region ?_
          refine RS.q rfl (QO.assign) ?_
          refine RS.nil ?_
          refine thenC_n ?_
          refine CS.ret ?_
          refine blockC_r ?_
          refine thenC_r ?_
          refine retQ.mk (H' := []) (.inr rfl) (RVs.tmp (by rfl) RVs.nil) (List.nil_sublist _) ?_
          exact ⟨congrArg iv (by first | (unfold regErr; simp only [*]; done) | (unfold regErr; simp [*]; done) | (unfold regErr; simp [*]; omega)), rfl⟩
        · have hb3p := of_decide_eq_false hb3
          refine CS.seq ?_
          refine CS.region ?_
          have hms := mul_small (w := wi) (h := he) (by omega) (by omega) (by omega) (by omega)
          refine RS.q rfl (QO.fieldAddr fo23_2 (by rfl)) ?_
          first | (refine RS.q rfl (QO.load ty3 (by rfl) (by repeat (first | exact List.Mem.head _ | refine List.Mem.tail _ ?_)) (by rfl)) ?_) | (refine RS.q rfl (QO.loadO ty3 (by rfl) (by assumption)) ?_) | (refine RS.q rfl (QO.load ty3 (by rfl) (by repeat (first | exact List.Mem.head _ | refine List.Mem.tail _ ?_)) (by assumption)) ?_)
          refine RS.q rfl (QO.fieldAddr fo23_3 (by rfl)) ?_
          first | (refine RS.q rfl (QO.load ty3 (by rfl) (by repeat (first | exact List.Mem.head _ | refine List.Mem.tail _ ?_)) (by rfl)) ?_) | (refine RS.q rfl (QO.loadO ty3 (by rfl) (by assumption)) ?_) | (refine RS.q rfl (QO.load ty3 (by rfl) (by repeat (first | exact List.Mem.head _ | refine List.Mem.tail _ ?_)) (by assumption)) ?_)
          first | (refine RS.q rfl (QO.mul (by rfl) (by rfl) (by omega) (by omega)) ?_) | (refine RS.q rfl (QO.ibin (by rfl) (by rfl) trivial) ?_)
          refine RS.q rfl (QO.gtr (by rfl) (by rfl)) ?_
          refine RS.q rfl (QO.assign) ?_
          refine RS.nil ?_
          refine thenC_n ?_
          refine CS.cond (by rfl) (fun hb4 => ?_) (fun hb4 => ?_)
          · have hb4p := of_decide_eq_true hb4
            refine CS.seq ?_
            refine CS.region ?_
            refine RS.q rfl (QO.assign) ?_
            refine RS.nil ?_
            refine thenC_n ?_
            refine CS.ret ?_
            refine blockC_r ?_
            refine thenC_r ?_
            refine retQ.mk (H' := []) (.inr rfl) (RVs.tmp (by rfl) RVs.nil) (List.nil_sublist _) ?_
            exact ⟨congrArg iv (by first | (unfold regErr; simp only [*]; done) | (unfold regErr; simp [*]; done) | (unfold regErr; simp [*]; omega)), rfl⟩
          · have hb4p := of_decide_eq_false hb4
            refine CS.seq ?_
            refine CS.region ?_
            refine RS.q rfl (QO.move) ?_
            refine RS.q rfl (QO.fieldAddr fo23_0 (by rfl)) ?_
            first | (refine RS.q rfl (QO.load ty3 (by rfl) (by repeat (first | exact List.Mem.head _ | refine List.Mem.tail _ ?_)) (by rfl)) ?_) | (refine RS.q rfl (QO.loadO ty3 (by rfl) (by assumption)) ?_) | (refine RS.q rfl (QO.load ty3 (by rfl) (by repeat (first | exact List.Mem.head _ | refine List.Mem.tail _ ?_)) (by assumption)) ?_)
            refine RS.q rfl (QO.fieldAddr fo23_2 (by rfl)) ?_
            first | (refine RS.q rfl (QO.load ty3 (by rfl) (by repeat (first | exact List.Mem.head _ | refine List.Mem.tail _ ?_)) (by rfl)) ?_) | (refine RS.q rfl (QO.loadO ty3 (by rfl) (by assumption)) ?_) | (refine RS.q rfl (QO.load ty3 (by rfl) (by repeat (first | exact List.Mem.head _ | refine List.Mem.tail _ ?_)) (by assumption)) ?_)
            refine RS.call rfl (by rfl) ok33 (by rfl) (fun w ho => out1 _ _ _ (by omega) (by omega)) ?_
            rintro _ _ ⟨rfl, rfl⟩
            refine RS.q rfl (QO.move) ?_
            refine RS.split (dj := 37) (by rfl) (fun hb5 => ?_) (fun hb5 => ?_)
            · refine RS.off (dj := 37) rfl (.inl (congrArg Value.bool hb5)) (fun _ => rfl) rfl ?_
              refine RS.off (dj := 37) rfl (.inl (congrArg Value.bool hb5)) (fun _ => rfl) rfl ?_
              refine RS.off (dj := 37) rfl (.inl (congrArg Value.bool hb5)) (fun _ => rfl) rfl ?_
              refine RS.off (dj := 37) rfl (.inl (congrArg Value.bool hb5)) (fun _ => rfl) rfl ?_
              refine RS.off (dj := 37) rfl (.inl (congrArg Value.bool hb5)) (fun _ => rfl) rfl ?_
              refine RS.off (dj := 37) rfl (.inl (congrArg Value.bool hb5)) (fun _ => rfl) rfl ?_
              refine RS.q rfl (QO.pickT (by rfl) hb5 (by rfl)) ?_
              refine RS.q rfl (QO.assign) ?_
              refine RS.nil ?_
              refine thenC_n ?_
              refine CS.condT (by rfl) rfl ?_
              refine CS.seq ?_
              refine CS.region ?_
              refine RS.q rfl (QO.assign) ?_
              refine RS.nil ?_
              refine thenC_n ?_
              refine CS.ret ?_
              refine blockC_r ?_
              refine thenC_r ?_
              refine retQ.mk (H' := []) (.inr rfl) (RVs.tmp (by rfl) RVs.nil) (List.nil_sublist _) ?_
              exact ⟨congrArg iv (by first | (unfold regErr; simp only [*]; done) | (unfold regErr; simp [*]; done) | (unfold regErr; simp [*]; omega)), rfl⟩
            · refine RS.on (dj := 37) rfl (congrArg Value.bool hb5) ?_
              refine RS.q rfl (QO.move) ?_
              refine RS.on (dj := 37) rfl (congrArg Value.bool hb5) ?_
              refine RS.q rfl (QO.fieldAddr fo23_1 (by rfl)) ?_
              refine RS.on (dj := 37) rfl (congrArg Value.bool hb5) ?_
              first | (refine RS.q rfl (QO.load ty3 (by rfl) (by repeat (first | exact List.Mem.head _ | refine List.Mem.tail _ ?_)) (by rfl)) ?_) | (refine RS.q rfl (QO.loadO ty3 (by rfl) (by assumption)) ?_) | (refine RS.q rfl (QO.load ty3 (by rfl) (by repeat (first | exact List.Mem.head _ | refine List.Mem.tail _ ?_)) (by assumption)) ?_)
              refine RS.on (dj := 37) rfl (congrArg Value.bool hb5) ?_
              refine RS.q rfl (QO.fieldAddr fo23_3 (by rfl)) ?_
              refine RS.on (dj := 37) rfl (congrArg Value.bool hb5) ?_
              first | (refine RS.q rfl (QO.load ty3 (by rfl) (by repeat (first | exact List.Mem.head _ | refine List.Mem.tail _ ?_)) (by rfl)) ?_) | (refine RS.q rfl (QO.loadO ty3 (by rfl) (by assumption)) ?_) | (refine RS.q rfl (QO.load ty3 (by rfl) (by repeat (first | exact List.Mem.head _ | refine List.Mem.tail _ ?_)) (by assumption)) ?_)
              refine RS.on (dj := 37) rfl (congrArg Value.bool hb5) ?_
              refine RS.call rfl (by rfl) ok33 (by rfl) (fun w ho => out1 _ _ _ (by omega) (by omega)) ?_
              rintro _ _ ⟨rfl, rfl⟩
              refine RS.q rfl (QO.pickF (by rfl) hb5 (by rfl)) ?_
              refine RS.q rfl (QO.assign) ?_
              refine RS.nil ?_
              refine thenC_n ?_
              refine CS.cond (by rfl) (fun hb6 => ?_) (fun hb6 => ?_)
              · refine CS.seq ?_
                refine CS.region ?_
                refine RS.q rfl (QO.assign) ?_
                refine RS.nil ?_
                refine thenC_n ?_
                refine CS.ret ?_
                refine blockC_r ?_
                refine thenC_r ?_
                refine retQ.mk (H' := []) (.inr rfl) (RVs.tmp (by rfl) RVs.nil) (List.nil_sublist _) ?_
                exact ⟨congrArg iv (by first | (unfold regErr; simp only [*]; done) | (unfold regErr; simp [*]; done) | (unfold regErr; simp [*]; omega)), rfl⟩
              · refine CS.skip ?_
                refine blockC_n ?_
                refine thenC_n ?_
                refine CS.seq ?_
                refine CS.region ?_
                refine RS.q rfl (QO.assign) ?_
                refine RS.nil ?_
                refine thenC_n ?_
                refine CS.ret ?_
                refine retQ.mk (H' := []) (.inr rfl) (RVs.tmp (by rfl) RVs.nil) (List.nil_sublist _) ?_
                exact ⟨congrArg iv (by first | (unfold regErr; simp only [*]; done) | (unfold regErr; simp [*]; done) | (unfold regErr; simp [*]; omega)), rfl⟩

def inB (n l h : Int) : Bool := decide (l ≤ n) && decide (n ≤ h)
theorem inB_true {n l h : Int} (e : inB n l h = true) : l ≤ n ∧ n ≤ h := by simpa [inB] using e
theorem inB_false {n l h : Int} (e : inB n l h = false) : n < l ∨ h < n := by simp [inB] at e; omega
set_option maxRecDepth 100000 in
theorem in_ (n l h : Int) (W : World) : Fn_ Try.prog 34 #[iv n, iv l, iv h] W (fun v H => v = .bool (inB n l h) ∧ H = []) := by
  refine Fn_.intro Try.func34 rfl rfl (by rfl) ?_
  refine CS.seq ?_
  refine CS.region ?_
  refine RS.q rfl (QO.assign) ?_
  refine RS.nil ?_
  refine thenC_n ?_
  refine CS.seq ?_
  refine CS.region ?_
  refine RS.q rfl (QO.move) ?_
  refine RS.q rfl (QO.move) ?_
  refine RS.q rfl (QO.geq (by rfl) (by rfl)) ?_
  refine RS.q rfl (QO.move) ?_
  refine RS.split (dj := 10) (by rfl) (fun hb0 => ?_) (fun hb0 => ?_)
  · have hb0p := of_decide_eq_true hb0
    refine RS.on (dj := 10) rfl (congrArg Value.bool hb0) ?_
    refine RS.q rfl (QO.move) ?_
    refine RS.on (dj := 10) rfl (congrArg Value.bool hb0) ?_
    refine RS.q rfl (QO.move) ?_
    refine RS.on (dj := 10) rfl (congrArg Value.bool hb0) ?_
    refine RS.q rfl (QO.leq (by rfl) (by rfl)) ?_
    refine RS.q rfl (QO.pickT (by rfl) hb0 (by rfl)) ?_
    refine RS.q rfl (QO.assign) ?_
    refine RS.nil ?_
    refine thenC_n ?_
    refine CS.ret ?_
    refine retQ.mk (H' := []) (.inr rfl) (RVs.tmp (by rfl) RVs.nil) (List.nil_sublist _) ?_
    exact ⟨congrArg Value.bool (by simp [inB]; omega), rfl⟩
  · have hb0p := of_decide_eq_false hb0
    refine RS.off (dj := 10) rfl (.inl (congrArg Value.bool hb0)) (fun _ => rfl) rfl ?_
    refine RS.off (dj := 10) rfl (.inl (congrArg Value.bool hb0)) (fun _ => rfl) rfl ?_
    refine RS.off (dj := 10) rfl (.inl (congrArg Value.bool hb0)) (fun _ => rfl) rfl ?_
    refine RS.q rfl (QO.pickF (by rfl) hb0 (by rfl)) ?_
    refine RS.q rfl (QO.assign) ?_
    refine RS.nil ?_
    refine thenC_n ?_
    refine CS.ret ?_
    refine retQ.mk (H' := []) (.inr rfl) (RVs.tmp (by rfl) RVs.nil) (List.nil_sublist _) ?_
    exact ⟨congrArg Value.bool (by simp [inB]; omega), rfl⟩

set_option maxRecDepth 100000 in
theorem regionError (x y wi he : Int) (W : World) (bx : -9223372036854775808 ≤ x ∧ x ≤ 9223372036854775807) : Fn_ Try.prog 20 #[.agg #[iv x, iv y, iv wi, iv he]] W (fun v H => v = iv (regErr x y wi he) ∧ H = []) := by
  refine Fn_.intro Try.func20 rfl rfl (by rfl) ?_
  refine CS.seq ?_
  refine CS.region ?_
  refine RS.box rfl (by rfl) (by rfl) ?_
  intro g1
  refine RS.q rfl (QO.assign) ?_
  refine RS.nil ?_
  refine thenC_n ?_
  refine CS.seq ?_
  refine CS.seq ?_
  refine CS.region ?_
  refine RS.q rfl (QO.fieldAddr fo23_2 (by rfl)) ?_
  first | (refine RS.q rfl (QO.load ty3 (by rfl) (by repeat (first | exact List.Mem.head _ | refine List.Mem.tail _ ?_)) (by rfl)) ?_) | (refine RS.q rfl (QO.loadO ty3 (by rfl) (by assumption)) ?_) | (refine RS.q rfl (QO.load ty3 (by rfl) (by repeat (first | exact List.Mem.head _ | refine List.Mem.tail _ ?_)) (by assumption)) ?_)
  refine RS.call rfl (by rfl) ok34 (by rfl) (fun w ho => in_ _ _ _ _) ?_
  rintro _ _ ⟨rfl, rfl⟩
  refine RS.q rfl (QO.not (by rfl)) ?_
  refine RS.q rfl (QO.move) ?_
  refine RS.split (dj := 7) (by rfl) (fun hb0 => ?_) (fun hb0 => ?_)
  · have hb0p := Eq.mp (Bool.not_eq_true' _) hb0
    refine RS.off (dj := 7) rfl (.inl (congrArg Value.bool hb0)) (fun _ => rfl) rfl ?_
    refine RS.off (dj := 7) rfl (.inl (congrArg Value.bool hb0)) (fun _ => rfl) rfl ?_
    refine RS.off (dj := 7) rfl (.inl (congrArg Value.bool hb0)) (fun _ => rfl) rfl ?_
    refine RS.off (dj := 7) rfl (.inl (congrArg Value.bool hb0)) (fun _ => rfl) rfl ?_
    refine RS.q rfl (QO.pickT (by rfl) hb0 (by rfl)) ?_
    refine RS.nil ?_
    refine thenC_n ?_
    refine CS.condT (by rfl) rfl ?_
    refine CS.seq ?_
    refine CS.region ?_
    refine RS.q rfl (QO.assign) ?_
    refine RS.nil ?_
    refine thenC_n ?_
    refine CS.ret ?_
    refine thenC_r ?_
    refine retQ.mk (H' := []) (.inr rfl) (RVs.tmp (by rfl) RVs.nil) (List.nil_sublist _) ?_
    have h := inB_false (by simpa using hb0)
    exact ⟨congrArg iv (by unfold regErr; rw [if_pos (by omega)]), rfl⟩
  · have hb0p := Eq.mp (Bool.not_eq_false' _) hb0
    refine RS.on (dj := 7) rfl (congrArg Value.bool hb0) ?_
    refine RS.q rfl (QO.fieldAddr fo23_3 (by rfl)) ?_
    refine RS.on (dj := 7) rfl (congrArg Value.bool hb0) ?_
    first | (refine RS.q rfl (QO.load ty3 (by rfl) (by repeat (first | exact List.Mem.head _ | refine List.Mem.tail _ ?_)) (by rfl)) ?_) | (refine RS.q rfl (QO.loadO ty3 (by rfl) (by assumption)) ?_) | (refine RS.q rfl (QO.load ty3 (by rfl) (by repeat (first | exact List.Mem.head _ | refine List.Mem.tail _ ?_)) (by assumption)) ?_)
    refine RS.on (dj := 7) rfl (congrArg Value.bool hb0) ?_
    refine RS.call rfl (by rfl) ok34 (by rfl) (fun w ho => in_ _ _ _ _) ?_
    rintro _ _ ⟨rfl, rfl⟩
    refine RS.on (dj := 7) rfl (congrArg Value.bool hb0) ?_
    refine RS.q rfl (QO.not (by rfl)) ?_
    refine RS.q rfl (QO.pickF (by rfl) hb0 (by rfl)) ?_
    refine RS.nil ?_
    refine thenC_n ?_
    refine CS.cond (by rfl) (fun hb1 => ?_) (fun hb1 => ?_)
    · have hb1p := Eq.mp (Bool.not_eq_true' _) hb1
      refine CS.seq ?_
      refine CS.region ?_
      refine RS.q rfl (QO.assign) ?_
      refine RS.nil ?_
      refine thenC_n ?_
      refine CS.ret ?_
      refine thenC_r ?_
      refine retQ.mk (H' := []) (.inr rfl) (RVs.tmp (by rfl) RVs.nil) (List.nil_sublist _) ?_
      have h := inB_false (by simpa using hb1)
      have h0 := inB_true (by simpa using hb0)
      exact ⟨congrArg iv (by unfold regErr; rw [if_pos (by omega)]), rfl⟩
    · have hb1p := Eq.mp (Bool.not_eq_false' _) hb1
      refine CS.skip ?_
      refine thenC_n ?_
      refine CS.seq ?_
      refine CS.seq ?_
      refine CS.region ?_
      have hi0 := inB_true (by simpa using hb0)
      have hi1 := inB_true (by simpa using hb1)
      have hms := mul_small (w := wi) (h := he) (by omega) (by omega) (by omega) (by omega)
      refine RS.q rfl (QO.fieldAddr fo23_2 (by rfl)) ?_
      first | (refine RS.q rfl (QO.load ty3 (by rfl) (by repeat (first | exact List.Mem.head _ | refine List.Mem.tail _ ?_)) (by rfl)) ?_) | (refine RS.q rfl (QO.loadO ty3 (by rfl) (by assumption)) ?_) | (refine RS.q rfl (QO.load ty3 (by rfl) (by repeat (first | exact List.Mem.head _ | refine List.Mem.tail _ ?_)) (by assumption)) ?_)
      refine RS.q rfl (QO.fieldAddr fo23_3 (by rfl)) ?_
      first | (refine RS.q rfl (QO.load ty3 (by rfl) (by repeat (first | exact List.Mem.head _ | refine List.Mem.tail _ ?_)) (by rfl)) ?_) | (refine RS.q rfl (QO.loadO ty3 (by rfl) (by assumption)) ?_) | (refine RS.q rfl (QO.load ty3 (by rfl) (by repeat (first | exact List.Mem.head _ | refine List.Mem.tail _ ?_)) (by assumption)) ?_)
      first | (refine RS.q rfl (QO.mul (by rfl) (by rfl) (by omega) (by omega)) ?_) | (refine RS.q rfl (QO.ibin (by rfl) (by rfl) trivial) ?_)
      refine RS.q rfl (QO.gtr (by rfl) (by rfl)) ?_
      refine RS.nil ?_
      refine thenC_n ?_
      refine CS.cond (by rfl) (fun hb2 => ?_) (fun hb2 => ?_)
      · have hb2p := of_decide_eq_true hb2
        refine CS.seq ?_
        refine CS.region ?_
        refine RS.q rfl (QO.assign) ?_
        refine RS.nil ?_
        refine thenC_n ?_
        refine CS.ret ?_
        refine thenC_r ?_
        refine retQ.mk (H' := []) (.inr rfl) (RVs.tmp (by rfl) RVs.nil) (List.nil_sublist _) ?_
        exact ⟨congrArg iv (by unfold regErr outR; rw [if_neg (by omega)]; first | (rw [if_pos (by omega)]; done) | (rw [if_neg (by omega)]; simp; omega)), rfl⟩
      · have hb2p := of_decide_eq_false hb2
        refine CS.skip ?_
        refine thenC_n ?_
        refine CS.seq ?_
        refine CS.seq ?_
        refine CS.region ?_
        refine RS.q rfl (QO.fieldAddr fo23_0 (by rfl)) ?_
        first | (refine RS.q rfl (QO.load ty3 (by rfl) (by repeat (first | exact List.Mem.head _ | refine List.Mem.tail _ ?_)) (by rfl)) ?_) | (refine RS.q rfl (QO.loadO ty3 (by rfl) (by assumption)) ?_) | (refine RS.q rfl (QO.load ty3 (by rfl) (by repeat (first | exact List.Mem.head _ | refine List.Mem.tail _ ?_)) (by assumption)) ?_)
        refine RS.q rfl (QO.lss (by rfl) (by rfl)) ?_
        refine RS.q rfl (QO.move) ?_
        refine RS.split (dj := 22) (by rfl) (fun hb3 => ?_) (fun hb3 => ?_)
        · have hb3p := of_decide_eq_true hb3
          refine RS.off (dj := 22) rfl (.inl (congrArg Value.bool hb3)) (fun _ => rfl) rfl ?_
          refine RS.off (dj := 22) rfl (.inl (congrArg Value.bool hb3)) (fun _ => rfl) rfl ?_
          refine RS.off (dj := 22) rfl (.inl (congrArg Value.bool hb3)) (fun _ => rfl) rfl ?_
          refine RS.q rfl (QO.pickT (by rfl) hb3 (by rfl)) ?_
          refine RS.q rfl (QO.move) ?_
          refine RS.off (dj := 27) rfl (.inl (congrArg Value.bool rfl)) (fun _ => rfl) rfl ?_
          refine RS.off (dj := 27) rfl (.inl (congrArg Value.bool rfl)) (fun _ => rfl) rfl ?_
          refine RS.off (dj := 27) rfl (.inl (congrArg Value.bool rfl)) (fun _ => rfl) rfl ?_
          refine RS.off (dj := 27) rfl (.inl (congrArg Value.bool rfl)) (fun _ => rfl) rfl ?_
          refine RS.off (dj := 27) rfl (.inl (congrArg Value.bool rfl)) (fun _ => rfl) rfl ?_
          refine RS.off (dj := 27) rfl (.inl (congrArg Value.bool rfl)) (fun _ => rfl) rfl ?_
          refine RS.q rfl (QO.pickT (by rfl) rfl (by rfl)) ?_
          refine RS.q rfl (QO.move) ?_
          refine RS.off (dj := 35) rfl (.inl (congrArg Value.bool rfl)) (fun _ => rfl) rfl ?_
          refine RS.off (dj := 35) rfl (.inl (congrArg Value.bool rfl)) (fun _ => rfl) rfl ?_
          refine RS.off (dj := 35) rfl (.inl (congrArg Value.bool rfl)) (fun _ => rfl) rfl ?_
          refine RS.off (dj := 35) rfl (.inl (congrArg Value.bool rfl)) (fun _ => rfl) rfl ?_
          refine RS.off (dj := 35) rfl (.inl (congrArg Value.bool rfl)) (fun _ => rfl) rfl ?_
          refine RS.off (dj := 35) rfl (.inl (congrArg Value.bool rfl)) (fun _ => rfl) rfl ?_
          refine RS.q rfl (QO.pickT (by rfl) rfl (by rfl)) ?_
          refine RS.nil ?_
          refine thenC_n ?_
          refine CS.condT (by rfl) rfl ?_
          refine CS.seq ?_
          refine CS.region ?_
          refine RS.q rfl (QO.assign) ?_
          refine RS.nil ?_
          refine thenC_n ?_
          refine CS.ret ?_
          refine thenC_r ?_
          refine retQ.mk (H' := []) (.inr rfl) (RVs.tmp (by rfl) RVs.nil) (List.nil_sublist _) ?_
          exact ⟨congrArg iv (by unfold regErr outR; rw [if_neg (by omega)]; first | (rw [if_pos (by omega)]; done) | (rw [if_neg (by omega)]; simp; omega)), rfl⟩
        · have hb3p := of_decide_eq_false hb3
          refine RS.on (dj := 22) rfl (congrArg Value.bool hb3) ?_
          refine RS.q rfl (QO.fieldAddr fo23_1 (by rfl)) ?_
          refine RS.on (dj := 22) rfl (congrArg Value.bool hb3) ?_
          first | (refine RS.q rfl (QO.load ty3 (by rfl) (by repeat (first | exact List.Mem.head _ | refine List.Mem.tail _ ?_)) (by rfl)) ?_) | (refine RS.q rfl (QO.loadO ty3 (by rfl) (by assumption)) ?_) | (refine RS.q rfl (QO.load ty3 (by rfl) (by repeat (first | exact List.Mem.head _ | refine List.Mem.tail _ ?_)) (by assumption)) ?_)
          refine RS.on (dj := 22) rfl (congrArg Value.bool hb3) ?_
          refine RS.q rfl (QO.lss (by rfl) (by rfl)) ?_
          refine RS.q rfl (QO.pickF (by rfl) hb3 (by rfl)) ?_
          refine RS.q rfl (QO.move) ?_
          refine RS.split (dj := 27) (by rfl) (fun hb4 => ?_) (fun hb4 => ?_)
          · have hb4p := of_decide_eq_true hb4
            refine RS.off (dj := 27) rfl (.inl (congrArg Value.bool hb4)) (fun _ => rfl) rfl ?_
            refine RS.off (dj := 27) rfl (.inl (congrArg Value.bool hb4)) (fun _ => rfl) rfl ?_
            refine RS.off (dj := 27) rfl (.inl (congrArg Value.bool hb4)) (fun _ => rfl) rfl ?_
            refine RS.off (dj := 27) rfl (.inl (congrArg Value.bool hb4)) (fun _ => rfl) rfl ?_
            refine RS.off (dj := 27) rfl (.inl (congrArg Value.bool hb4)) (fun _ => rfl) rfl ?_
            refine RS.off (dj := 27) rfl (.inl (congrArg Value.bool hb4)) (fun _ => rfl) rfl ?_
            refine RS.q rfl (QO.pickT (by rfl) hb4 (by rfl)) ?_
            refine RS.q rfl (QO.move) ?_
            refine RS.off (dj := 35) rfl (.inl (congrArg Value.bool rfl)) (fun _ => rfl) rfl ?_
            refine RS.off (dj := 35) rfl (.inl (congrArg Value.bool rfl)) (fun _ => rfl) rfl ?_
            refine RS.off (dj := 35) rfl (.inl (congrArg Value.bool rfl)) (fun _ => rfl) rfl ?_
            refine RS.off (dj := 35) rfl (.inl (congrArg Value.bool rfl)) (fun _ => rfl) rfl ?_
            refine RS.off (dj := 35) rfl (.inl (congrArg Value.bool rfl)) (fun _ => rfl) rfl ?_
            refine RS.off (dj := 35) rfl (.inl (congrArg Value.bool rfl)) (fun _ => rfl) rfl ?_
            refine RS.q rfl (QO.pickT (by rfl) rfl (by rfl)) ?_
            refine RS.nil ?_
            refine thenC_n ?_
            refine CS.condT (by rfl) rfl ?_
            refine CS.seq ?_
            refine CS.region ?_
            refine RS.q rfl (QO.assign) ?_
            refine RS.nil ?_
            refine thenC_n ?_
            refine CS.ret ?_
            refine thenC_r ?_
            refine retQ.mk (H' := []) (.inr rfl) (RVs.tmp (by rfl) RVs.nil) (List.nil_sublist _) ?_
            exact ⟨congrArg iv (by unfold regErr outR; rw [if_neg (by omega)]; first | (rw [if_pos (by omega)]; done) | (rw [if_neg (by omega)]; simp; omega)), rfl⟩
          · have hb4p := of_decide_eq_false hb4
            refine RS.on (dj := 27) rfl (congrArg Value.bool hb4) ?_
            refine RS.q rfl (QO.fieldAddr fo23_0 (by rfl)) ?_
            refine RS.on (dj := 27) rfl (congrArg Value.bool hb4) ?_
            first | (refine RS.q rfl (QO.load ty3 (by rfl) (by repeat (first | exact List.Mem.head _ | refine List.Mem.tail _ ?_)) (by rfl)) ?_) | (refine RS.q rfl (QO.loadO ty3 (by rfl) (by assumption)) ?_) | (refine RS.q rfl (QO.load ty3 (by rfl) (by repeat (first | exact List.Mem.head _ | refine List.Mem.tail _ ?_)) (by assumption)) ?_)
            refine RS.on (dj := 27) rfl (congrArg Value.bool hb4) ?_
            refine RS.q rfl (QO.fieldAddr fo23_2 (by rfl)) ?_
            refine RS.on (dj := 27) rfl (congrArg Value.bool hb4) ?_
            first | (refine RS.q rfl (QO.load ty3 (by rfl) (by repeat (first | exact List.Mem.head _ | refine List.Mem.tail _ ?_)) (by rfl)) ?_) | (refine RS.q rfl (QO.loadO ty3 (by rfl) (by assumption)) ?_) | (refine RS.q rfl (QO.load ty3 (by rfl) (by repeat (first | exact List.Mem.head _ | refine List.Mem.tail _ ?_)) (by assumption)) ?_)
            refine RS.on (dj := 27) rfl (congrArg Value.bool hb4) ?_
            first | (refine RS.q rfl (QO.sub (by rfl) (by rfl) (by omega) (by omega)) ?_) | (refine RS.q rfl (QO.ibin (by rfl) (by rfl) trivial) ?_)
            refine RS.on (dj := 27) rfl (congrArg Value.bool hb4) ?_
            refine RS.q rfl (QO.gtr (by rfl) (by rfl)) ?_
            refine RS.q rfl (QO.pickF (by rfl) hb4 (by rfl)) ?_
            refine RS.q rfl (QO.move) ?_
            refine RS.split (dj := 35) (by rfl) (fun hb5 => ?_) (fun hb5 => ?_)
            · have hb5p := of_decide_eq_true hb5
              refine RS.off (dj := 35) rfl (.inl (congrArg Value.bool hb5)) (fun _ => rfl) rfl ?_
              refine RS.off (dj := 35) rfl (.inl (congrArg Value.bool hb5)) (fun _ => rfl) rfl ?_
              refine RS.off (dj := 35) rfl (.inl (congrArg Value.bool hb5)) (fun _ => rfl) rfl ?_
              refine RS.off (dj := 35) rfl (.inl (congrArg Value.bool hb5)) (fun _ => rfl) rfl ?_
              refine RS.off (dj := 35) rfl (.inl (congrArg Value.bool hb5)) (fun _ => rfl) rfl ?_
              refine RS.off (dj := 35) rfl (.inl (congrArg Value.bool hb5)) (fun _ => rfl) rfl ?_
              refine RS.q rfl (QO.pickT (by rfl) hb5 (by rfl)) ?_
              refine RS.nil ?_
              refine thenC_n ?_
              refine CS.condT (by rfl) rfl ?_
              refine CS.seq ?_
              refine CS.region ?_
              refine RS.q rfl (QO.assign) ?_
              refine RS.nil ?_
              refine thenC_n ?_
              refine CS.ret ?_
              refine thenC_r ?_
              refine retQ.mk (H' := []) (.inr rfl) (RVs.tmp (by rfl) RVs.nil) (List.nil_sublist _) ?_
              exact ⟨congrArg iv (by unfold regErr outR; rw [if_neg (by omega)]; first | (rw [if_pos (by omega)]; done) | (rw [if_neg (by omega)]; simp; omega)), rfl⟩
            · have hb5p := of_decide_eq_false hb5
              refine RS.on (dj := 35) rfl (congrArg Value.bool hb5) ?_
              refine RS.q rfl (QO.fieldAddr fo23_1 (by rfl)) ?_
              refine RS.on (dj := 35) rfl (congrArg Value.bool hb5) ?_
              first | (refine RS.q rfl (QO.load ty3 (by rfl) (by repeat (first | exact List.Mem.head _ | refine List.Mem.tail _ ?_)) (by rfl)) ?_) | (refine RS.q rfl (QO.loadO ty3 (by rfl) (by assumption)) ?_) | (refine RS.q rfl (QO.load ty3 (by rfl) (by repeat (first | exact List.Mem.head _ | refine List.Mem.tail _ ?_)) (by assumption)) ?_)
              refine RS.on (dj := 35) rfl (congrArg Value.bool hb5) ?_
              refine RS.q rfl (QO.fieldAddr fo23_3 (by rfl)) ?_
              refine RS.on (dj := 35) rfl (congrArg Value.bool hb5) ?_
              first | (refine RS.q rfl (QO.load ty3 (by rfl) (by repeat (first | exact List.Mem.head _ | refine List.Mem.tail _ ?_)) (by rfl)) ?_) | (refine RS.q rfl (QO.loadO ty3 (by rfl) (by assumption)) ?_) | (refine RS.q rfl (QO.load ty3 (by rfl) (by repeat (first | exact List.Mem.head _ | refine List.Mem.tail _ ?_)) (by assumption)) ?_)
              refine RS.on (dj := 35) rfl (congrArg Value.bool hb5) ?_
              first | (refine RS.q rfl (QO.sub (by rfl) (by rfl) (by omega) (by omega)) ?_) | (refine RS.q rfl (QO.ibin (by rfl) (by rfl) trivial) ?_)
              refine RS.on (dj := 35) rfl (congrArg Value.bool hb5) ?_
              refine RS.q rfl (QO.gtr (by rfl) (by rfl)) ?_
              refine RS.q rfl (QO.pickF (by rfl) hb5 (by rfl)) ?_
              refine RS.nil ?_
              refine thenC_n ?_
              refine CS.cond (by rfl) (fun hb6 => ?_) (fun hb6 => ?_)
              · have hb6p := of_decide_eq_true hb6
                refine CS.seq ?_
                refine CS.region ?_
                refine RS.q rfl (QO.assign) ?_
                refine RS.nil ?_
                refine thenC_n ?_
                refine CS.ret ?_
                refine thenC_r ?_
                refine retQ.mk (H' := []) (.inr rfl) (RVs.tmp (by rfl) RVs.nil) (List.nil_sublist _) ?_
                exact ⟨congrArg iv (by unfold regErr outR; rw [if_neg (by omega)]; first | (rw [if_pos (by omega)]; done) | (rw [if_neg (by omega)]; simp; omega)), rfl⟩
              · have hb6p := of_decide_eq_false hb6
                refine CS.skip ?_
                refine thenC_n ?_
                refine CS.seq ?_
                refine CS.region ?_
                refine RS.q rfl (QO.assign) ?_
                refine RS.nil ?_
                refine thenC_n ?_
                refine CS.ret ?_
                refine retQ.mk (H' := []) (.inr rfl) (RVs.tmp (by rfl) RVs.nil) (List.nil_sublist _) ?_
                exact ⟨congrArg iv (by unfold regErr outR; rw [if_neg (by omega)]; first | (rw [if_pos (by omega)]; done) | (rw [if_neg (by omega)]; simp; omega)), rfl⟩

end Go.Proofs.Ytdfbeigjinhgiaa

namespace Go.Proofs.Ytdfbeigjinhgiaa
open Go Go.Proofs Go.RowKit

theorem ty23 : tyChk Try.prog 23 = some ([.int .i64 0, .int .i64 0, .int .i64 0, .int .i64 0], true, 32) := by kernel_rfl
theorem ty24 : tyChk Try.prog 24 = some ([.slice none 0 0], false, 24) := by kernel_rfl
theorem ty26 : tyChk Try.prog 26 = some ([.int .i64 0, .int .i64 0, .int .i64 0, .int .i64 0, .slice none 0 0], true, 56) := by kernel_rfl
theorem ty43 : tyChk Try.prog 43 = some ([.float .f32 0], false, 4) := by kernel_rfl
theorem ty52 : tyChk Try.prog 52 = some ([.float .f32 0, .float .f32 0, .float .f32 0, .float .f32 0], true, 16) := by kernel_rfl
theorem fo26_0 : fldOff Try.prog 26 0 = some (0, 23) := by kernel_rfl
theorem fo26_1 : fldOff Try.prog 26 1 = some (4, 24) := by kernel_rfl
theorem ok4 : callOK Try.prog 4 = true := by kernel_rfl
theorem ok5 : callOK Try.prog 5 = true := by kernel_rfl
theorem ok15 : callOK Try.prog 15 = true := by kernel_rfl
theorem ok37 : callOK Try.prog 37 = true := by kernel_rfl
theorem ok16 : callOK Try.prog 16 = true := by kernel_rfl
set_option maxRecDepth 100000 in
theorem fit (x y wi he : Int) (A : Option Addr) (n c : Nat) (xs : List Nat) (W : World) (hn : xs.length = n) (hA : FS W A xs) (hlx : n ≤ maxLen) : Fn_ Try.prog 5 #[.agg #[iv x, iv y, iv wi, iv he, .slice A n c]] W (fun v H => ∃ g, v = .agg #[iv (clamp x), iv (clamp y), iv (1 + and7 wi), iv (1 + and7 he), .slice (some ⟨g, 0, none⟩) (fitN wi he) (fitN wi he)] ∧ H = [⟨g, 43, (fitV xs wi he).map flt⟩]) := by
  subst hn
  have ha1 := and7_bd wi
  have ha2 := and7_bd he
  have ha3 := mul_bd (a := 4 * (1 + and7 wi)) (b := 1 + and7 he) (by omega) (by omega) (by omega) (by omega)
  have hN : ((fitN wi he : Nat) : Int) = 4 * (1 + and7 wi) * (1 + and7 he) := by unfold fitN; omega
  unfold maxLen at hlx
  refine Fn_.intro Try.func5 rfl rfl (by rfl) ?_
  refine CS.seq ?_
  refine CS.region ?_
  refine RS.box rfl (by rfl) (by rfl) ?_
  intro g1
  refine RS.alloc rfl ty26 ?_
  intro g2
  refine RS.nil ?_
  refine thenC_n ?_
  refine CS.seq ?_
  refine CS.region ?_
  refine RS.q rfl (QO.fieldAddr fo26_0 (by rfl)) ?_
  refine RS.q rfl (QO.fieldAddr fo23_2 (by rfl)) ?_
  first | (refine RS.q rfl (QO.load ty3 (by rfl) (by repeat (first | exact List.Mem.head _ | refine List.Mem.tail _ ?_)) (by rfl)) ?_) | (refine RS.q rfl (QO.loadO ty3 (by rfl) (by assumption)) ?_) | (refine RS.q rfl (QO.load ty3 (by rfl) (by repeat (first | exact List.Mem.head _ | refine List.Mem.tail _ ?_)) (by assumption)) ?_)
  refine RS.q rfl (QO.and7 (by rfl) (by rfl)) ?_
  first | (refine RS.q rfl (QO.add (by rfl) (by rfl) (by omega) (by omega)) ?_) | (refine RS.q rfl (QO.ibin (by rfl) (by rfl) trivial) ?_)
  refine RS.q rfl (QO.fieldAddr fo26_0 (by rfl)) ?_
  refine RS.q rfl (QO.fieldAddr fo23_3 (by rfl)) ?_
  first | (refine RS.q rfl (QO.load ty3 (by rfl) (by repeat (first | exact List.Mem.head _ | refine List.Mem.tail _ ?_)) (by rfl)) ?_) | (refine RS.q rfl (QO.loadO ty3 (by rfl) (by assumption)) ?_) | (refine RS.q rfl (QO.load ty3 (by rfl) (by repeat (first | exact List.Mem.head _ | refine List.Mem.tail _ ?_)) (by assumption)) ?_)
  refine RS.q rfl (QO.and7 (by rfl) (by rfl)) ?_
  first | (refine RS.q rfl (QO.add (by rfl) (by rfl) (by omega) (by omega)) ?_) | (refine RS.q rfl (QO.ibin (by rfl) (by rfl) trivial) ?_)
  refine RS.q rfl (QO.fieldAddr fo26_0 (by rfl)) ?_
  refine RS.q rfl (QO.fieldAddr fo23_2 (by rfl)) ?_
  refine RS.store1 ty3 rfl (by rfl) (by rfl) (by rfl) (by repeat (first | exact Upd.head | apply Upd.tail)) (by first | (simp; done) | (simp; omega) | omega) ?_
  refine RS.q rfl (QO.fieldAddr fo26_0 (by rfl)) ?_
  refine RS.q rfl (QO.fieldAddr fo23_3 (by rfl)) ?_
  refine RS.store1 ty3 rfl (by rfl) (by rfl) (by rfl) (by repeat (first | exact Upd.head | apply Upd.tail)) (by first | (simp; done) | (simp; omega) | omega) ?_
  refine RS.nil ?_
  refine thenC_n ?_
  refine CS.seq ?_
  refine CS.region ?_
  refine RS.q rfl (QO.fieldAddr fo26_0 (by rfl)) ?_
  refine RS.q rfl (QO.fieldAddr fo23_0 (by rfl)) ?_
  first | (refine RS.q rfl (QO.load ty3 (by rfl) (by repeat (first | exact List.Mem.head _ | refine List.Mem.tail _ ?_)) (by rfl)) ?_) | (refine RS.q rfl (QO.loadO ty3 (by rfl) (by assumption)) ?_) | (refine RS.q rfl (QO.load ty3 (by rfl) (by repeat (first | exact List.Mem.head _ | refine List.Mem.tail _ ?_)) (by assumption)) ?_)
  refine RS.q rfl (QO.max2 (by rfl) (by rfl)) ?_
  refine RS.q rfl (QO.min2 (by rfl) (by rfl)) ?_
  refine RS.q rfl (QO.fieldAddr fo26_0 (by rfl)) ?_
  refine RS.q rfl (QO.fieldAddr fo23_1 (by rfl)) ?_
  first | (refine RS.q rfl (QO.load ty3 (by rfl) (by repeat (first | exact List.Mem.head _ | refine List.Mem.tail _ ?_)) (by rfl)) ?_) | (refine RS.q rfl (QO.loadO ty3 (by rfl) (by assumption)) ?_) | (refine RS.q rfl (QO.load ty3 (by rfl) (by repeat (first | exact List.Mem.head _ | refine List.Mem.tail _ ?_)) (by assumption)) ?_)
  refine RS.q rfl (QO.max2 (by rfl) (by rfl)) ?_
  refine RS.q rfl (QO.min2 (by rfl) (by rfl)) ?_
  refine RS.q rfl (QO.fieldAddr fo26_0 (by rfl)) ?_
  refine RS.q rfl (QO.fieldAddr fo23_0 (by rfl)) ?_
  refine RS.store1 ty3 rfl (by rfl) (by rfl) (by rfl) (by repeat (first | exact Upd.head | apply Upd.tail)) (by first | (simp; done) | (simp; omega) | omega) ?_
  refine RS.q rfl (QO.fieldAddr fo26_0 (by rfl)) ?_
  refine RS.q rfl (QO.fieldAddr fo23_1 (by rfl)) ?_
  refine RS.store1 ty3 rfl (by rfl) (by rfl) (by rfl) (by repeat (first | exact Upd.head | apply Upd.tail)) (by first | (simp; done) | (simp; omega) | omega) ?_
  refine RS.nil ?_
  refine thenC_n ?_
  refine CS.seq ?_
  refine CS.region ?_
  refine RS.q rfl (QO.fieldAddr fo26_0 (by rfl)) ?_
  refine RS.q rfl (QO.fieldAddr fo23_2 (by rfl)) ?_
  first | (refine RS.q rfl (QO.load ty3 (by rfl) (by repeat (first | exact List.Mem.head _ | refine List.Mem.tail _ ?_)) (by rfl)) ?_) | (refine RS.q rfl (QO.loadO ty3 (by rfl) (by assumption)) ?_) | (refine RS.q rfl (QO.load ty3 (by rfl) (by repeat (first | exact List.Mem.head _ | refine List.Mem.tail _ ?_)) (by assumption)) ?_)
  first | (refine RS.q rfl (QO.mul (by rfl) (by rfl) (by omega) (by omega)) ?_) | (refine RS.q rfl (QO.ibin (by rfl) (by rfl) trivial) ?_)
  refine RS.q rfl (QO.fieldAddr fo26_0 (by rfl)) ?_
  refine RS.q rfl (QO.fieldAddr fo23_3 (by rfl)) ?_
  first | (refine RS.q rfl (QO.load ty3 (by rfl) (by repeat (first | exact List.Mem.head _ | refine List.Mem.tail _ ?_)) (by rfl)) ?_) | (refine RS.q rfl (QO.loadO ty3 (by rfl) (by assumption)) ?_) | (refine RS.q rfl (QO.load ty3 (by rfl) (by repeat (first | exact List.Mem.head _ | refine List.Mem.tail _ ?_)) (by assumption)) ?_)
  first | (refine RS.q rfl (QO.mul (by rfl) (by rfl) (by omega) (by omega)) ?_) | (refine RS.q rfl (QO.ibin (by rfl) (by rfl) trivial) ?_)
  refine RS.make rfl Try.underlying24 ty43 (by rfl) (by rfl) (by omega) (by omega) (by omega) (by omega) ?_
  intro gv
  refine RS.q rfl (QO.assign) ?_
  refine RS.nil ?_
  refine thenC_n ?_
  refine CS.seq ?_
  refine CS.seq ?_
  refine CS.region ?_
  refine RS.q rfl (QO.move) ?_
  refine RS.q rfl (QO.lenS Try.underlying24 (by rfl)) ?_
  refine RS.q rfl (QO.move) ?_
  refine RS.nil ?_
  refine thenC_n ?_
  refine CS.block ?_
  refine CS.loop (X := Nat) (4 :: 44 :: 45 :: 46 :: 47 :: 48 :: 49 :: 50 :: 51 :: 52 :: 53 :: 54 :: 55 :: 56 :: 57 :: 58 :: 59 :: 60 :: 61 :: 62 :: 63 :: []) (fun k => [(44, iv k)]) (fun k => [⟨gv, 43, fitL xs (fitN wi he) k⟩, ⟨g2, 26, [iv 0, iv 0, iv 0, iv 0, .slice none 0 0]⟩, ⟨g1, 26, [iv (clamp x), iv (clamp y), iv (1 + and7 wi), iv (1 + and7 he), .slice A xs.length c]⟩]) (fun k => k ≤ fitN wi he) (fun k => fitN wi he - k) 0 (Nat.zero_le _) ?_ ?_ ?_
  · exact (by repeat (first | exact kn_nil | refine kn_cons (by rfl) ?_))
  · exact (by rw [fitL_zero]; exact (by repeat (first | exact List.Sublist.refl _ | exact List.nil_sublist _ | refine List.Sublist.cons_cons _ ?_ | refine List.Sublist.cons _ ?_ | exact Sbp.refl | exact Sbp.nil | refine Sbp.cons (by repeat (first | exact Rem.head | apply Rem.tail)) ?_ | exact Sbp.app | refine Sbp.skip ?_)))
  · intro k gj5 hz
    refine CS.seq ?_
    refine CS.region ?_
    refine RS.q rfl (QO.lss (by rfl) (by rfl)) ?_
    refine RS.nil ?_
    refine thenC_n ?_
    refine CS.seq ?_
    refine CS.cond (by rfl) (fun hb0 => ?_) (fun hb0 => ?_)
    · have hb0p := of_decide_eq_true hb0
      refine CS.skip ?_
      refine thenC_n ?_
      refine CS.seq ?_
      refine CS.block ?_
      refine CS.seq ?_
      refine CS.region ?_
      refine RS.q rfl (QO.move) ?_
      refine RS.q rfl (QO.assign) ?_
      refine RS.nil ?_
      refine thenC_n ?_
      refine CS.seq ?_
      refine CS.region ?_
      refine RS.q rfl (QO.fieldAddr fo26_1 (by rfl)) ?_
      first | (refine RS.q rfl (QO.load ty24 (by rfl) (by repeat (first | exact List.Mem.head _ | refine List.Mem.tail _ ?_)) (by rfl)) ?_) | (refine RS.q rfl (QO.loadO ty24 (by rfl) (by assumption)) ?_) | (refine RS.q rfl (QO.load ty24 (by rfl) (by repeat (first | exact List.Mem.head _ | refine List.Mem.tail _ ?_)) (by assumption)) ?_)
      refine RS.q rfl (QO.lenS Try.underlying24 (by rfl)) ?_
      refine RS.q rfl (QO.gtr (by rfl) (by rfl)) ?_
      refine RS.nil ?_
      refine thenC_n ?_
      refine CS.cond (by rfl) (fun hb1 => ?_) (fun hb1 => ?_)
      · have hb1p := of_decide_eq_true hb1
        refine CS.draw 12 rfl (by kernel_rfl) (by kernel_rfl) ?_
        obtain ⟨bA, oA, rfl, hcell⟩ := hA (by omega)
        have hlt : k % xs.length < xs.length := Nat.mod_lt _ (by omega)
        refine RT.take (i := 0) rfl (by kernel_rfl) rfl (QO.move) ?_
        refine RT.take (i := 1) rfl (by kernel_rfl) rfl (QO.move) ?_
        refine RT.take (i := 2) rfl (by kernel_rfl) rfl (QO.fieldAddr fo26_1 (by rfl)) ?_
        first | (refine RT.take (i := 3) rfl (by kernel_rfl) rfl (QO.load ty24 (by rfl) (by repeat (first | exact List.Mem.head _ | refine List.Mem.tail _ ?_)) (by rfl)) ?_) | (refine RT.take (i := 3) rfl (by kernel_rfl) rfl (QO.loadO ty24 (by rfl) (by assumption)) ?_) | (refine RT.take (i := 3) rfl (by kernel_rfl) rfl (QO.load ty24 (by rfl) (by repeat (first | exact List.Mem.head _ | refine List.Mem.tail _ ?_)) (by assumption)) ?_)
        refine RT.take (i := 4) rfl (by kernel_rfl) rfl (QO.move) ?_
        refine RT.take (i := 5) rfl (by kernel_rfl) rfl (QO.fieldAddr fo26_1 (by rfl)) ?_
        first | (refine RT.take (i := 6) rfl (by kernel_rfl) rfl (QO.load ty24 (by rfl) (by repeat (first | exact List.Mem.head _ | refine List.Mem.tail _ ?_)) (by rfl)) ?_) | (refine RT.take (i := 6) rfl (by kernel_rfl) rfl (QO.loadO ty24 (by rfl) (by assumption)) ?_) | (refine RT.take (i := 6) rfl (by kernel_rfl) rfl (QO.load ty24 (by rfl) (by repeat (first | exact List.Mem.head _ | refine List.Mem.tail _ ?_)) (by assumption)) ?_)
        refine RT.take (i := 7) rfl (by kernel_rfl) rfl (QO.lenS Try.underlying24 (by rfl)) ?_
        refine RT.takev (i := 8) rfl (by kernel_rfl) rfl (QO.rem (by rfl) (by rfl) (by omega)) (congrArg iv (tmod_cast k xs.length)) ?_
        first | (refine RT.take (i := 9) rfl (by kernel_rfl) rfl (QO.idx0 Try.underlying24 ty43 (by rfl) (by rfl) (by rfl) (by omega)) ?_) | (refine RT.take (i := 9) rfl (by kernel_rfl) rfl (QO.idxn Try.underlying24 ty43 (by rfl) (by rfl) (by rfl) (by omega)) ?_) | (refine RT.take (i := 9) rfl (by kernel_rfl) rfl (QO.idx1 Try.underlying24 ty43 (by rfl) (by rfl) (by omega) (by omega)) ?_)
        refine RT.take (i := 10) rfl (by kernel_rfl) rfl (QO.loadO ty43 (by rfl) (hcell _ _ (List.getElem?_eq_getElem hlt))) ?_
        first | (refine RT.take (i := 11) rfl (by kernel_rfl) rfl (QO.idx0 Try.underlying24 ty43 (by rfl) (by rfl) (by rfl) (by omega)) ?_) | (refine RT.take (i := 11) rfl (by kernel_rfl) rfl (QO.idxn Try.underlying24 ty43 (by rfl) (by rfl) (by rfl) (by omega)) ?_) | (refine RT.take (i := 11) rfl (by kernel_rfl) rfl (QO.idx1 Try.underlying24 ty43 (by rfl) (by rfl) (by omega) (by omega)) ?_)
        refine RT.tail (i := 12) (by kernel_rfl) rfl rfl ?_
        refine RS.store1e ty43 rfl (by rfl) (by rfl) (by rfl) (fitL_set' xs (fitN wi he) k _ (fitv_at _ _ hlt) (by omega)) (by repeat (first | exact Upd.head | apply Upd.tail)) (by rw [fitL_len]; omega) ?_
        refine RS.nil ?_
        refine RT.done (by kernel_rfl) ?_
        refine blockC_n ?_
        refine thenC_n ?_
        refine CS.region ?_
        first | (refine RS.q rfl (QO.add (by rfl) (by rfl) (by omega) (by omega)) ?_) | (refine RS.q rfl (QO.ibin (by rfl) (by rfl) trivial) ?_)
        refine RS.q rfl (QO.move) ?_
        refine RS.nil ?_
        refine loopQ_n (by intro t ht; repeat (first | with_reducible exact rfl | exact frame_puts ht (frame_mix ht) _ rfl | (refine frame_put rfl ht ?_) | (refine frame_puts ht ?_ _ rfl) | exact frame_mix ht | (refine frame_mix2 rfl ht ?_) | exact rfl)) ?_
        exact ⟨k + 1, by omega, by omega, (by repeat (first | exact kn_nil | refine kn_cons (by rfl) ?_)), (by repeat (first | exact List.Sublist.refl _ | exact List.nil_sublist _ | refine List.Sublist.cons_cons _ ?_ | refine List.Sublist.cons _ ?_ | exact Sbp.refl | exact Sbp.nil | refine Sbp.cons (by repeat (first | exact Rem.head | apply Rem.tail)) ?_ | exact Sbp.app | refine Sbp.skip ?_))⟩
      · have hb1p := of_decide_eq_false hb1
        refine CS.skip ?_
        refine blockC_n ?_
        refine thenC_n ?_
        refine CS.region ?_
        first | (refine RS.q rfl (QO.add (by rfl) (by rfl) (by omega) (by omega)) ?_) | (refine RS.q rfl (QO.ibin (by rfl) (by rfl) trivial) ?_)
        refine RS.q rfl (QO.move) ?_
        refine RS.nil ?_
        refine loopQ_n (by intro t ht; repeat (first | with_reducible exact rfl | exact frame_puts ht (frame_mix ht) _ rfl | (refine frame_put rfl ht ?_) | (refine frame_puts ht ?_ _ rfl) | exact frame_mix ht | (refine frame_mix2 rfl ht ?_) | exact rfl)) ?_
        exact ⟨k + 1, by omega, by omega, (by repeat (first | exact kn_nil | refine kn_cons (by rfl) ?_)), (by rw [← fitL_skip _ _ _ (by omega)]; exact (by repeat (first | exact List.Sublist.refl _ | exact List.nil_sublist _ | refine List.Sublist.cons_cons _ ?_ | refine List.Sublist.cons _ ?_ | exact Sbp.refl | exact Sbp.nil | refine Sbp.cons (by repeat (first | exact Rem.head | apply Rem.tail)) ?_ | exact Sbp.app | refine Sbp.skip ?_)))⟩
    · have hb0p := of_decide_eq_false hb0
      refine CS.exit ?_
      refine thenC_x ?_
      refine loopQ_x ?_
      refine blockC_x ?_
      refine thenC_n ?_
      refine CS.seq ?_
      refine CS.region ?_
      refine RS.q rfl (QO.move) ?_
      refine RS.q rfl (QO.fieldAddr fo26_1 (by rfl)) ?_
      refine RS.store1 ty24 rfl (by rfl) (by rfl) (by rfl) (by repeat (first | exact Upd.head | apply Upd.tail)) (by first | (simp; done) | (simp; omega) | omega) ?_
      refine RS.nil ?_
      refine thenC_n ?_
      refine CS.seq ?_
      refine CS.region ?_
      first | (refine RS.q rfl (QO.loadB ty26 (by rfl) (by repeat (first | exact List.Mem.head _ | refine List.Mem.tail _ ?_)) (by rfl)) ?_) | (refine RS.q rfl (QO.loadA ty26 (by rfl) (by repeat (first | exact List.Mem.head _ | refine List.Mem.tail _ ?_)) (by rfl) (by rfl)) ?_) | (refine RS.q rfl (QO.loadOA ty26 (by rfl) (by assumption) (by rfl)) ?_)
      first | refine RS.storeB ty26 (by rfl) (by rfl) (by rfl) (by rfl) (by rfl) (by repeat (first | exact Upd.head | apply Upd.tail)) (by rfl) ?_ | refine RS.storeP ty26 (by rfl) (by rfl) (by rfl) (by rfl) (by rfl) (by repeat (first | exact Upd.head | apply Upd.tail)) (by rfl) ?_
      refine RS.nil ?_
      refine thenC_n ?_
      refine CS.ret ?_
      refine retQ.mk (H' := [⟨gv, 43, (fitV xs wi he).map flt⟩]) (.inr rfl) (RVs.cellA ty26 (by rfl) (by repeat (first | exact List.Mem.head _ | refine List.Mem.tail _ ?_)) (by rfl) RVs.nil) (by obtain rfl : k = fitN wi he := (by omega); rw [fitL_full]; exact (by repeat (first | exact List.Sublist.refl _ | exact List.nil_sublist _ | refine List.Sublist.cons_cons _ ?_ | refine List.Sublist.cons _ ?_ | exact Sbp.refl | exact Sbp.nil | refine Sbp.cons (by repeat (first | exact Rem.head | apply Rem.tail)) ?_ | exact Sbp.app | refine Sbp.skip ?_))) ?_
      exact ⟨gv, rfl, rfl⟩

def frErr (x y w h : Int) (n : Nat) : Int := if regErr x y w h ≠ 0 then regErr x y w h else if (n : Int) ≠ 4 * w * h then 2 else 0
theorem frErr_ok {x y w h : Int} {n : Nat} (e : frErr x y w h n = 0) : regErr x y w h = 0 ∧ (n : Int) = 4 * w * h := by
  unfold frErr at e
  split at e
  · contradiction
  · rename_i h1
    split at e
    · cases e
    · rename_i h2
      exact ⟨Decidable.not_not.1 h1, Decidable.not_not.1 h2⟩

set_option maxRecDepth 100000 in
theorem check (x y wi he : Int) (A : Option Addr) (m c : Nat) (W : World) : Fn_ Try.prog 16 #[.agg #[iv x, iv y, iv wi, iv he, .slice A m c]] W (fun v H => v = iv (frErr x y wi he m) ∧ H = []) := by
  refine Fn_.intro Try.func16 rfl rfl (by rfl) ?_
  refine CS.seq ?_
  refine CS.region ?_
  refine RS.box rfl (by rfl) (by rfl) ?_
  intro g1
  refine RS.q rfl (QO.assign) ?_
  refine RS.nil ?_
  refine thenC_n ?_
  refine CS.seq ?_
  refine CS.seq ?_
  refine CS.region ?_
  refine RS.q rfl (QO.fieldAddr fo26_0 (by rfl)) ?_
  first | (refine RS.q rfl (QO.loadB ty23 (by rfl) (by repeat (first | exact List.Mem.head _ | refine List.Mem.tail _ ?_)) (by rfl)) ?_) | (refine RS.q rfl (QO.loadA ty23 (by rfl) (by repeat (first | exact List.Mem.head _ | refine List.Mem.tail _ ?_)) (by rfl) (by rfl)) ?_) | (refine RS.q rfl (QO.loadOA ty23 (by rfl) (by assumption) (by rfl)) ?_)
  refine RS.call rfl (by rfl) ok15 (by rfl) (fun w ho => checkRegion _ _ _ _ _) ?_
  rintro _ _ ⟨rfl, rfl⟩
  refine RS.q rfl (QO.assign) ?_
  refine RS.nil ?_
  refine thenC_n ?_
  refine CS.seq ?_
  refine CS.region ?_
  refine RS.q rfl (QO.move) ?_
  refine RS.q rfl (QO.neq (by rfl) (by rfl)) ?_
  refine RS.nil ?_
  refine thenC_n ?_
  refine CS.cond (by rfl) (fun hb0 => ?_) (fun hb0 => ?_)
  · have hb0p := bne_iff_ne.1 hb0
    refine CS.seq ?_
    refine CS.region ?_
    refine RS.q rfl (QO.move) ?_
    refine RS.q rfl (QO.assign) ?_
    refine RS.nil ?_
    refine thenC_n ?_
    refine CS.ret ?_
    refine thenC_r ?_
    refine retQ.mk (H' := []) (.inr rfl) (RVs.tmp (by rfl) RVs.nil) (List.nil_sublist _) ?_
    exact ⟨congrArg iv (by unfold frErr; rw [if_pos hb0p]), rfl⟩
  · have hb0p := of_bne_false hb0
    refine CS.skip ?_
    refine thenC_n ?_
    refine CS.seq ?_
    refine CS.seq ?_
    refine CS.region ?_
    have hro := regErr_ok (of_bne_false hb0)
    refine RS.q rfl (QO.fieldAddr fo26_1 (by rfl)) ?_
    first | (refine RS.q rfl (QO.load ty24 (by rfl) (by repeat (first | exact List.Mem.head _ | refine List.Mem.tail _ ?_)) (by rfl)) ?_) | (refine RS.q rfl (QO.loadO ty24 (by rfl) (by assumption)) ?_) | (refine RS.q rfl (QO.load ty24 (by rfl) (by repeat (first | exact List.Mem.head _ | refine List.Mem.tail _ ?_)) (by assumption)) ?_)
    refine RS.q rfl (QO.lenS Try.underlying24 (by rfl)) ?_
    refine RS.q rfl (QO.fieldAddr fo26_0 (by rfl)) ?_
    refine RS.q rfl (QO.fieldAddr fo23_2 (by rfl)) ?_
    first | (refine RS.q rfl (QO.load ty3 (by rfl) (by repeat (first | exact List.Mem.head _ | refine List.Mem.tail _ ?_)) (by rfl)) ?_) | (refine RS.q rfl (QO.loadO ty3 (by rfl) (by assumption)) ?_) | (refine RS.q rfl (QO.load ty3 (by rfl) (by repeat (first | exact List.Mem.head _ | refine List.Mem.tail _ ?_)) (by assumption)) ?_)
    first | (refine RS.q rfl (QO.mul (by rfl) (by rfl) (by omega) (by omega)) ?_) | (refine RS.q rfl (QO.ibin (by rfl) (by rfl) trivial) ?_)
    refine RS.q rfl (QO.fieldAddr fo26_0 (by rfl)) ?_
    refine RS.q rfl (QO.fieldAddr fo23_3 (by rfl)) ?_
    first | (refine RS.q rfl (QO.load ty3 (by rfl) (by repeat (first | exact List.Mem.head _ | refine List.Mem.tail _ ?_)) (by rfl)) ?_) | (refine RS.q rfl (QO.loadO ty3 (by rfl) (by assumption)) ?_) | (refine RS.q rfl (QO.load ty3 (by rfl) (by repeat (first | exact List.Mem.head _ | refine List.Mem.tail _ ?_)) (by assumption)) ?_)
    first | (refine RS.q rfl (QO.mul (by rfl) (by rfl) (by omega) (by omega)) ?_) | (refine RS.q rfl (QO.ibin (by rfl) (by rfl) trivial) ?_)
    refine RS.q rfl (QO.neq (by rfl) (by rfl)) ?_
    refine RS.nil ?_
    refine thenC_n ?_
    refine CS.cond (by rfl) (fun hb1 => ?_) (fun hb1 => ?_)
    · have hb1p := bne_iff_ne.1 hb1
      refine CS.seq ?_
      refine CS.region ?_
      refine RS.q rfl (QO.assign) ?_
      refine RS.nil ?_
      refine thenC_n ?_
      refine CS.ret ?_
      refine thenC_r ?_
      refine retQ.mk (H' := []) (.inr rfl) (RVs.tmp (by rfl) RVs.nil) (List.nil_sublist _) ?_
      exact ⟨congrArg iv (by unfold frErr; rw [if_neg (Decidable.not_not.2 hb0p), if_pos hb1p]), rfl⟩
    · have hb1p := of_bne_false hb1
      refine CS.skip ?_
      refine thenC_n ?_
      refine CS.seq ?_
      refine CS.region ?_
      refine RS.q rfl (QO.assign) ?_
      refine RS.nil ?_
      refine thenC_n ?_
      refine CS.ret ?_
      refine retQ.mk (H' := []) (.inr rfl) (RVs.tmp (by rfl) RVs.nil) (List.nil_sublist _) ?_
      exact ⟨congrArg iv (by unfold frErr; rw [if_neg (Decidable.not_not.2 hb0p), if_neg (Decidable.not_not.2 hb1p)]), rfl⟩

/-- what Plane comes to -/
def PlaneR (x y wi he : Int) (xs : List Nat) (ch : Int) (v : Value) (H : HL) : Prop :=
  (frErr x y wi he xs.length ≠ 0 ∧ v = .tuple #[.slice none 0 0, iv (frErr x y wi he xs.length)] ∧ H = []) ∨
  (frErr x y wi he xs.length = 0 ∧ (ch < 0 ∨ 3 < ch) ∧ v = .tuple #[.slice none 0 0, iv 3] ∧ H = []) ∨
  (frErr x y wi he xs.length = 0 ∧ 0 ≤ ch ∧ ch ≤ 3 ∧ ∃ g, v = .tuple #[.slice (some ⟨g, 0, none⟩) (wi * he).toNat (wi * he).toNat, iv 0] ∧ H = [⟨g, 43, (planeV xs ch (wi * he).toNat).map flt⟩])

theorem PlaneR.ok {x y wi he : Int} {xs : List Nat} {ch : Int} {v : Value} {H : HL} (h : PlaneR x y wi he xs ch v H) (e : frErr x y wi he xs.length = 0) (h0 : 0 ≤ ch) (h3 : ch ≤ 3) :
    ∃ g, v = .tuple #[.slice (some ⟨g, 0, none⟩) (wi * he).toNat (wi * he).toNat, iv 0] ∧ H = [⟨g, 43, (planeV xs ch (wi * he).toNat).map flt⟩] := by
  rcases h with ⟨h, _⟩ | ⟨_, h, _⟩ | ⟨_, _, _, h⟩
  · exact absurd e h
  · omega
  · exact h
/-- the sum of a channel -/
def chanF (xs : List Nat) (m : Nat) (ch : Nat) : Nat := Go.Proofs.Ytdfbeigjinhgiaa.sum (planeV xs (ch : Int) m)
theorem fitN_eq (wi he : Int) : ((fitN wi he : Nat) : Int) = 4 * (1 + and7 wi) * (1 + and7 he) ∧ 4 * (1 + and7 wi) * (1 + and7 he) = 4 * ((1 + and7 wi) * (1 + and7 he)) ∧ 1 ≤ (1 + and7 wi) * (1 + and7 he) ∧ (1 + and7 wi) * (1 + and7 he) ≤ 64 := by
  have h1 := and7_bd wi
  have h2 := and7_bd he
  have h5 : (1 + and7 wi) * (1 + and7 he) ≤ 8 * 8 := Int.mul_le_mul (by omega) (by omega) (by omega) (by omega)
  have h6 : 1 * 1 ≤ (1 + and7 wi) * (1 + and7 he) := Int.mul_le_mul (by omega) (by omega) (by omega) (by omega)
  have h7 : 4 * (1 + and7 wi) * (1 + and7 he) = 4 * ((1 + and7 wi) * (1 + and7 he)) := Int.mul_assoc ..
  unfold fitN
  omega
theorem fitV_len (xs : List Nat) (wi he : Int) : (fitV xs wi he).length = fitN wi he := by simp [fitV]
end Go.Proofs.Ytdfbeigjinhgiaa

namespace Go.Proofs.Ytdfbeigjinhgiaa
open Go Go.Proofs Go.RowKit

theorem pl26 : places Try.prog 26 = some #[(0, 4), (4, 1)] := by kernel_rfl
theorem ok23 : callOK Try.prog 23 = true := by kernel_rfl
theorem ok24 : callOK Try.prog 24 = true := by kernel_rfl
theorem ok30 : callOK Try.prog 30 = true := by kernel_rfl

set_option maxRecDepth 100000 in
theorem pixelAt (x y : Int) (w h : Nat) (A : Option Addr) (n c : Nat) (xs : List Nat) (X Y : Int) (W : World) (hn : xs.length = n) (hA : FS W A xs) (hN : n = 4 * (w * h)) (hc : n ≤ c) (hw : 1 ≤ w ∧ w ≤ 256) (hh : 1 ≤ h ∧ h ≤ 256) (hx : -1048576 ≤ x ∧ x ≤ 1048576) (hy : -1048576 ≤ y ∧ y ≤ 1048576) : Fn_ Try.prog 23 #[.agg #[iv x, iv y, iv (w : Int), iv (h : Int), .slice A n c], iv X, iv Y] W (fun v H => v = pxv (pixF xs x y w h X Y) ∧ H = []) := by
  subst hn
  obtain ⟨i, hi, hi2⟩ := near_bd (x := x) (X := X) hw.1
  obtain ⟨j, hj, hj2⟩ := near_bd (x := y) (X := Y) hh.1
  have hbd := pix_bd hi hj
  have hwh : w * h ≤ 256 * 256 := Nat.mul_le_mul hw.2 hh.2
  have hcast : ((j * w : Nat) : Int) = (j : Int) * (w : Int) := Int.natCast_mul ..
  have hcast2 : ((w * h : Nat) : Int) = (w : Int) * (h : Int) := Int.natCast_mul ..
  obtain ⟨bA, oA, rfl, hcell⟩ := hA (by omega)
  have hpx : ∀ (k : Nat) (v : Value), [flt (pixF xs x y w h X Y 0), flt (pixF xs x y w h X Y 1), flt (pixF xs x y w h X Y 2), flt (pixF xs x y w h X Y 3)][k]? = some v → W.cell? ((⟨bA, oA + 4 * (j * w + i), none⟩ : Addr).add k) = some v := by
    intro k v hk
    have hk4 : k < 4 := (List.getElem?_eq_some_iff.1 hk).1
    rw [idx4 (fun q => flt (pixF xs x y w h X Y q)) k hk4] at hk
    have hk' : flt (pixF xs x y w h X Y k) = v := by simpa using hk
    rw [← hk', addr_add, pixF_at hi2 hj2, Nat.add_assoc]
    exact hcell _ _ (by rw [List.getElem?_eq_getElem (by omega), getD_at])
  refine Fn_.intro Try.func23 rfl rfl (by rfl) ?_
  refine CS.seq ?_
  refine CS.region ?_
  refine RS.box rfl (by rfl) (by rfl) ?_
  intro g3
  refine RS.alloc rfl ty52 ?_
  intro g6
  refine RS.nil ?_
  refine thenC_n ?_
  refine CS.seq ?_
  refine CS.region ?_
  refine RS.q rfl (QO.move) ?_
  refine RS.q rfl (QO.fieldAddr fo26_0 (by rfl)) ?_
  refine RS.q rfl (QO.fieldAddr fo23_0 (by rfl)) ?_
  first | (refine RS.q rfl (QO.load ty3 (by rfl) (by repeat (first | exact List.Mem.head _ | refine List.Mem.tail _ ?_)) (by rfl)) ?_) | (refine RS.q rfl (QO.loadO ty3 (by rfl) (by assumption)) ?_) | (refine RS.q rfl (QO.load ty3 (by rfl) (by repeat (first | exact List.Mem.head _ | refine List.Mem.tail _ ?_)) (by assumption)) ?_)
  refine RS.q rfl (QO.max2 (by rfl) (by rfl)) ?_
  refine RS.q rfl (QO.fieldAddr fo26_0 (by rfl)) ?_
  refine RS.q rfl (QO.fieldAddr fo23_0 (by rfl)) ?_
  first | (refine RS.q rfl (QO.load ty3 (by rfl) (by repeat (first | exact List.Mem.head _ | refine List.Mem.tail _ ?_)) (by rfl)) ?_) | (refine RS.q rfl (QO.loadO ty3 (by rfl) (by assumption)) ?_) | (refine RS.q rfl (QO.load ty3 (by rfl) (by repeat (first | exact List.Mem.head _ | refine List.Mem.tail _ ?_)) (by assumption)) ?_)
  refine RS.q rfl (QO.fieldAddr fo26_0 (by rfl)) ?_
  refine RS.q rfl (QO.fieldAddr fo23_2 (by rfl)) ?_
  first | (refine RS.q rfl (QO.load ty3 (by rfl) (by repeat (first | exact List.Mem.head _ | refine List.Mem.tail _ ?_)) (by rfl)) ?_) | (refine RS.q rfl (QO.loadO ty3 (by rfl) (by assumption)) ?_) | (refine RS.q rfl (QO.load ty3 (by rfl) (by repeat (first | exact List.Mem.head _ | refine List.Mem.tail _ ?_)) (by assumption)) ?_)
  first | (refine RS.q rfl (QO.add (by rfl) (by rfl) (by omega) (by omega)) ?_) | (refine RS.q rfl (QO.ibin (by rfl) (by rfl) trivial) ?_)
  first | (refine RS.q rfl (QO.sub (by rfl) (by rfl) (by omega) (by omega)) ?_) | (refine RS.q rfl (QO.ibin (by rfl) (by rfl) trivial) ?_)
  refine RS.qv rfl (QO.min2 (by rfl) (by rfl)) (congrArg iv (show min (max X x) (x + w - 1) = x + (i : Int) from hi2)) ?_
  refine RS.q rfl (QO.assign) ?_
  refine RS.nil ?_
  refine thenC_n ?_
  refine CS.seq ?_
  refine CS.region ?_
  refine RS.q rfl (QO.move) ?_
  refine RS.q rfl (QO.fieldAddr fo26_0 (by rfl)) ?_
  refine RS.q rfl (QO.fieldAddr fo23_1 (by rfl)) ?_
  first | (refine RS.q rfl (QO.load ty3 (by rfl) (by repeat (first | exact List.Mem.head _ | refine List.Mem.tail _ ?_)) (by rfl)) ?_) | (refine RS.q rfl (QO.loadO ty3 (by rfl) (by assumption)) ?_) | (refine RS.q rfl (QO.load ty3 (by rfl) (by repeat (first | exact List.Mem.head _ | refine List.Mem.tail _ ?_)) (by assumption)) ?_)
  refine RS.q rfl (QO.max2 (by rfl) (by rfl)) ?_
  refine RS.q rfl (QO.fieldAddr fo26_0 (by rfl)) ?_
  refine RS.q rfl (QO.fieldAddr fo23_1 (by rfl)) ?_
  first | (refine RS.q rfl (QO.load ty3 (by rfl) (by repeat (first | exact List.Mem.head _ | refine List.Mem.tail _ ?_)) (by rfl)) ?_) | (refine RS.q rfl (QO.loadO ty3 (by rfl) (by assumption)) ?_) | (refine RS.q rfl (QO.load ty3 (by rfl) (by repeat (first | exact List.Mem.head _ | refine List.Mem.tail _ ?_)) (by assumption)) ?_)
  refine RS.q rfl (QO.fieldAddr fo26_0 (by rfl)) ?_
  refine RS.q rfl (QO.fieldAddr fo23_3 (by rfl)) ?_
  first | (refine RS.q rfl (QO.load ty3 (by rfl) (by repeat (first | exact List.Mem.head _ | refine List.Mem.tail _ ?_)) (by rfl)) ?_) | (refine RS.q rfl (QO.loadO ty3 (by rfl) (by assumption)) ?_) | (refine RS.q rfl (QO.load ty3 (by rfl) (by repeat (first | exact List.Mem.head _ | refine List.Mem.tail _ ?_)) (by assumption)) ?_)
  first | (refine RS.q rfl (QO.add (by rfl) (by rfl) (by omega) (by omega)) ?_) | (refine RS.q rfl (QO.ibin (by rfl) (by rfl) trivial) ?_)
  first | (refine RS.q rfl (QO.sub (by rfl) (by rfl) (by omega) (by omega)) ?_) | (refine RS.q rfl (QO.ibin (by rfl) (by rfl) trivial) ?_)
  refine RS.qv rfl (QO.min2 (by rfl) (by rfl)) (congrArg iv (show min (max Y y) (y + h - 1) = y + (j : Int) from hj2)) ?_
  refine RS.q rfl (QO.assign) ?_
  refine RS.nil ?_
  refine thenC_n ?_
  refine CS.seq ?_
  refine CS.region ?_
  refine RS.q rfl (QO.move) ?_
  refine RS.q rfl (QO.fieldAddr fo26_0 (by rfl)) ?_
  refine RS.q rfl (QO.fieldAddr fo23_1 (by rfl)) ?_
  first | (refine RS.q rfl (QO.load ty3 (by rfl) (by repeat (first | exact List.Mem.head _ | refine List.Mem.tail _ ?_)) (by rfl)) ?_) | (refine RS.q rfl (QO.loadO ty3 (by rfl) (by assumption)) ?_) | (refine RS.q rfl (QO.load ty3 (by rfl) (by repeat (first | exact List.Mem.head _ | refine List.Mem.tail _ ?_)) (by assumption)) ?_)
  first | (refine RS.qv rfl (QO.sub (by rfl) (by rfl) (by omega) (by omega)) (congrArg iv (show y + (j : Int) - y = j by omega)) ?_) | (refine RS.qv rfl (QO.ibin (by rfl) (by rfl) trivial) (congrArg iv (show y + (j : Int) - y = j by omega)) ?_)
  refine RS.q rfl (QO.fieldAddr fo26_0 (by rfl)) ?_
  refine RS.q rfl (QO.fieldAddr fo23_2 (by rfl)) ?_
  first | (refine RS.q rfl (QO.load ty3 (by rfl) (by repeat (first | exact List.Mem.head _ | refine List.Mem.tail _ ?_)) (by rfl)) ?_) | (refine RS.q rfl (QO.loadO ty3 (by rfl) (by assumption)) ?_) | (refine RS.q rfl (QO.load ty3 (by rfl) (by repeat (first | exact List.Mem.head _ | refine List.Mem.tail _ ?_)) (by assumption)) ?_)
  first | (refine RS.q rfl (QO.mul (by rfl) (by rfl) (by omega) (by omega)) ?_) | (refine RS.q rfl (QO.ibin (by rfl) (by rfl) trivial) ?_)
  refine RS.q rfl (QO.move) ?_
  first | (refine RS.q rfl (QO.add (by rfl) (by rfl) (by omega) (by omega)) ?_) | (refine RS.q rfl (QO.ibin (by rfl) (by rfl) trivial) ?_)
  refine RS.q rfl (QO.fieldAddr fo26_0 (by rfl)) ?_
  refine RS.q rfl (QO.fieldAddr fo23_0 (by rfl)) ?_
  first | (refine RS.q rfl (QO.load ty3 (by rfl) (by repeat (first | exact List.Mem.head _ | refine List.Mem.tail _ ?_)) (by rfl)) ?_) | (refine RS.q rfl (QO.loadO ty3 (by rfl) (by assumption)) ?_) | (refine RS.q rfl (QO.load ty3 (by rfl) (by repeat (first | exact List.Mem.head _ | refine List.Mem.tail _ ?_)) (by assumption)) ?_)
  first | (refine RS.q rfl (QO.sub (by rfl) (by rfl) (by omega) (by omega)) ?_) | (refine RS.q rfl (QO.ibin (by rfl) (by rfl) trivial) ?_)
  first | (refine RS.qv rfl (QO.mul (by rfl) (by rfl) (by omega) (by omega)) (congrArg iv (show 4 * ((j : Int) * (w : Int) + (x + (i : Int)) - x) = ((4 * (j * w + i) : Nat) : Int) by omega)) ?_) | (refine RS.qv rfl (QO.ibin (by rfl) (by rfl) trivial) (congrArg iv (show 4 * ((j : Int) * (w : Int) + (x + (i : Int)) - x) = ((4 * (j * w + i) : Nat) : Int) by omega)) ?_)
  refine RS.q rfl (QO.assign) ?_
  refine RS.nil ?_
  refine thenC_n ?_
  refine CS.seq ?_
  refine CS.region ?_
  refine RS.q rfl (QO.fieldAddr fo26_1 (by rfl)) ?_
  first | (refine RS.q rfl (QO.load ty24 (by rfl) (by repeat (first | exact List.Mem.head _ | refine List.Mem.tail _ ?_)) (by rfl)) ?_) | (refine RS.q rfl (QO.loadO ty24 (by rfl) (by assumption)) ?_) | (refine RS.q rfl (QO.load ty24 (by rfl) (by repeat (first | exact List.Mem.head _ | refine List.Mem.tail _ ?_)) (by assumption)) ?_)
  refine RS.q rfl (QO.move) ?_
  refine RS.q rfl (QO.move) ?_
  first | (refine RS.q rfl (QO.add (by rfl) (by rfl) (by omega) (by omega)) ?_) | (refine RS.q rfl (QO.ibin (by rfl) (by rfl) trivial) ?_)
  refine RS.q rfl (QO.cutLoHi Try.underlying24 ty43 (by rfl) (by rfl) (by rfl) (by omega) (by omega) (by omega)) ?_
  refine RS.qv rfl (QO.arrPtr Try.underlying52 (by rfl) (by omega)) (congrArg Value.pointer (show cutAt bA oA ((4 * (j * w + i) : Nat) : Int).toNat c 1 = some ⟨bA, oA + 4 * (j * w + i), none⟩ from by rw [Int.toNat_natCast, cutAt_eq (by omega), Nat.mul_one])) ?_
  refine RS.q rfl (QO.loadOA ty52 (vs := [flt (pixF xs x y w h X Y 0), flt (pixF xs x y w h X Y 1), flt (pixF xs x y w h X Y 2), flt (pixF xs x y w h X Y 3)]) (by rfl) hpx (by rfl)) ?_
  first | refine RS.storeB ty52 (by rfl) (by rfl) (by rfl) (by rfl) (by rfl) (by repeat (first | exact Upd.head | apply Upd.tail)) (by rfl) ?_ | refine RS.storeP ty52 (by rfl) (by rfl) (by rfl) (by rfl) (by rfl) (by repeat (first | exact Upd.head | apply Upd.tail)) (by rfl) ?_
  refine RS.nil ?_
  refine thenC_n ?_
  refine CS.ret ?_
  refine retQ.mk (H' := []) (.inr rfl) (RVs.cellA ty52 (by rfl) (by repeat (first | exact List.Mem.head _ | refine List.Mem.tail _ ?_)) (by rfl) RVs.nil) (List.nil_sublist _) ?_
  exact ⟨rfl, rfl⟩

set_option maxRecDepth 100000 in
theorem made (x y : Int) (a b : Nat) (fc : FuncId) (cap : Array Value) (p : Int → Int → Nat → Nat) (W : World) (hok : callOK Try.prog fc = true) (hw : 1 ≤ a ∧ a ≤ 256) (hh : 1 ≤ b ∧ b ≤ 256) (hx : -1048576 ≤ x ∧ x ≤ 1048576) (hy : -1048576 ≤ y ∧ y ≤ 1048576) (hf : ∀ wd Hd, Own W wd Hd → ∀ X Y, x ≤ X → X < x + a → y ≤ Y → Y < y + b → Fn_ Try.prog fc (iv X :: iv Y :: cap.toList).toArray wd (fun v H => v = pxv (p X Y) ∧ H = [])) : Fn_ Try.prog 24 #[.agg #[iv x, iv y, iv (a : Int), iv (b : Int)], .func (.func fc) #[] cap] W (fun v H => ∃ vs, v = .agg #[iv x, iv y, iv (a : Int), iv (b : Int), vs] ∧ Row 43 1 vs (4 * (a * b)) ((madeV p x y a (4 * (a * b))).map flt) H) := by
  refine Fn_.intro Try.func24 rfl rfl (by rfl) ?_
  refine CS.seq ?_
  refine CS.region ?_
  refine RS.box rfl (by rfl) (by rfl) ?_
  intro g2
  refine RS.alloc rfl ty26 ?_
  intro g4
  refine RS.nil ?_
  refine thenC_n ?_
  refine CS.seq ?_
  refine CS.region ?_
  first | (refine RS.q rfl (QO.loadB ty23 (by rfl) (by repeat (first | exact List.Mem.head _ | refine List.Mem.tail _ ?_)) (by rfl)) ?_) | (refine RS.q rfl (QO.loadA ty23 (by rfl) (by repeat (first | exact List.Mem.head _ | refine List.Mem.tail _ ?_)) (by rfl) (by rfl)) ?_) | (refine RS.q rfl (QO.loadOA ty23 (by rfl) (by assumption) (by rfl)) ?_)
  refine RS.q rfl (QO.build ty26 pl26 (by rfl)) ?_
  refine RS.alloc rfl ty26 ?_
  intro g5
  first | refine RS.storeB ty26 (by rfl) (by rfl) (by rfl) (by rfl) (by rfl) (by repeat (first | exact Upd.head | apply Upd.tail)) (by rfl) ?_ | refine RS.storeP ty26 (by rfl) (by rfl) (by rfl) (by rfl) (by rfl) (by repeat (first | exact Upd.head | apply Upd.tail)) (by rfl) ?_
  refine RS.nil ?_
  refine thenC_n ?_
  refine CS.seq ?_
  refine CS.seq ?_
  refine CS.region ?_
  refine RS.q rfl (QO.fieldAddr fo23_1 (by rfl)) ?_
  first | (refine RS.q rfl (QO.load ty3 (by rfl) (by repeat (first | exact List.Mem.head _ | refine List.Mem.tail _ ?_)) (by rfl)) ?_) | (refine RS.q rfl (QO.loadO ty3 (by rfl) (by assumption)) ?_) | (refine RS.q rfl (QO.load ty3 (by rfl) (by repeat (first | exact List.Mem.head _ | refine List.Mem.tail _ ?_)) (by assumption)) ?_)
  refine RS.q rfl (QO.assign) ?_
  refine RS.nil ?_
  refine thenC_n ?_
  refine CS.block ?_
  refine CS.loop (X := Nat × Value × HL) (6 :: 7 :: 9 :: 14 :: 15 :: 16 :: 17 :: 18 :: 19 :: 20 :: 21 :: 22 :: 23 :: 24 :: 25 :: 26 :: 27 :: 28 :: 29 :: 30 :: 31 :: 32 :: 33 :: 34 :: 35 :: 36 :: 37 :: 38 :: 39 :: 40 :: 41 :: 42 :: 43 :: 44 :: 45 :: 46 :: 47 :: 48 :: []) (fun z => [(6, iv (y + (z.1 : Int)))]) (fun z => ⟨g5, 26, [iv x, iv y, iv (a : Int), iv (b : Int), z.2.1]⟩ :: ⟨g4, 26, [iv 0, iv 0, iv 0, iv 0, .slice none 0 0]⟩ :: ⟨g2, 23, [iv x, iv y, iv (a : Int), iv (b : Int)]⟩ :: z.2.2) (fun z => z.1 ≤ b ∧ Row 43 1 z.2.1 (4 * (a * z.1)) ((madeV p x y a (4 * (a * z.1))).map flt) z.2.2) (fun z => b - z.1) (0, .slice none 0 0, []) ⟨Nat.zero_le _, .nil⟩ ?_ ?_ ?_
  · exact kn_cons (congrArg iv (by simp)) kn_nil
  · exact (by repeat (first | exact List.Sublist.refl _ | exact List.nil_sublist _ | refine List.Sublist.cons_cons _ ?_ | refine List.Sublist.cons _ ?_ | exact Sbp.refl | exact Sbp.nil | refine Sbp.cons (by repeat (first | exact Rem.head | apply Rem.tail)) ?_ | exact Sbp.app | refine Sbp.skip ?_))
  · intro z gj3 hz
    obtain ⟨yy, vo, Hr⟩ := z
    obtain ⟨hyy, hrow⟩ := hz
    simp only at hyy hrow
    refine CS.seq ?_
    refine CS.seq ?_
    refine CS.region ?_
    refine RS.q rfl (QO.move) ?_
    refine RS.q rfl (QO.fieldAddr fo23_1 (by rfl)) ?_
    first | (refine RS.q rfl (QO.load ty3 (by rfl) (by repeat (first | exact List.Mem.head _ | refine List.Mem.tail _ ?_)) (by rfl)) ?_) | (refine RS.q rfl (QO.loadO ty3 (by rfl) (by assumption)) ?_) | (refine RS.q rfl (QO.load ty3 (by rfl) (by repeat (first | exact List.Mem.head _ | refine List.Mem.tail _ ?_)) (by assumption)) ?_)
    refine RS.q rfl (QO.fieldAddr fo23_3 (by rfl)) ?_
    first | (refine RS.q rfl (QO.load ty3 (by rfl) (by repeat (first | exact List.Mem.head _ | refine List.Mem.tail _ ?_)) (by rfl)) ?_) | (refine RS.q rfl (QO.loadO ty3 (by rfl) (by assumption)) ?_) | (refine RS.q rfl (QO.load ty3 (by rfl) (by repeat (first | exact List.Mem.head _ | refine List.Mem.tail _ ?_)) (by assumption)) ?_)
    first | (refine RS.q rfl (QO.add (by rfl) (by rfl) (by omega) (by omega)) ?_) | (refine RS.q rfl (QO.ibin (by rfl) (by rfl) trivial) ?_)
    refine RS.q rfl (QO.lss (by rfl) (by rfl)) ?_
    refine RS.nil ?_
    refine thenC_n ?_
    refine CS.cond (by rfl) (fun hb0 => ?_) (fun hb0 => ?_)
    · have hb0p := of_decide_eq_true hb0
      refine CS.skip ?_
      refine thenC_n ?_
      refine CS.seq ?_
      refine CS.block ?_
      refine CS.seq ?_
      refine CS.region ?_
      refine RS.q rfl (QO.fieldAddr fo23_0 (by rfl)) ?_
      first | (refine RS.q rfl (QO.load ty3 (by rfl) (by repeat (first | exact List.Mem.head _ | refine List.Mem.tail _ ?_)) (by rfl)) ?_) | (refine RS.q rfl (QO.loadO ty3 (by rfl) (by assumption)) ?_) | (refine RS.q rfl (QO.load ty3 (by rfl) (by repeat (first | exact List.Mem.head _ | refine List.Mem.tail _ ?_)) (by assumption)) ?_)
      refine RS.q rfl (QO.assign) ?_
      refine RS.nil ?_
      refine thenC_n ?_
      refine CS.block ?_
      have hyb : yy < b := by omega
      clear hyy
      refine CS.loop (X := Nat × Value × HL) (7 :: 9 :: 25 :: 26 :: 27 :: 28 :: 29 :: 30 :: 31 :: 32 :: 33 :: 34 :: 35 :: 36 :: 37 :: 38 :: 39 :: 40 :: 41 :: 42 :: 43 :: 44 :: 45 :: 46 :: 47 :: 48 :: []) (fun z => [(7, iv (x + (z.1 : Int)))]) (fun z => ⟨g5, 26, [iv x, iv y, iv (a : Int), iv (b : Int), z.2.1]⟩ :: ⟨g4, 26, [iv 0, iv 0, iv 0, iv 0, .slice none 0 0]⟩ :: ⟨g2, 23, [iv x, iv y, iv (a : Int), iv (b : Int)]⟩ :: z.2.2) (fun z => z.1 ≤ a ∧ Row 43 1 z.2.1 (4 * (a * yy + z.1)) ((madeV p x y a (4 * (a * yy + z.1))).map flt) z.2.2) (fun z => a - z.1) (0, vo, Hr) ⟨Nat.zero_le _, hrow⟩ ?_ ?_ ?_
      · exact kn_cons (congrArg iv (by simp)) kn_nil
      · exact (by repeat (first | exact List.Sublist.refl _ | exact List.nil_sublist _ | refine List.Sublist.cons_cons _ ?_ | refine List.Sublist.cons _ ?_ | exact Sbp.refl | exact Sbp.nil | refine Sbp.cons (by repeat (first | exact Rem.head | apply Rem.tail)) ?_ | exact Sbp.app | refine Sbp.skip ?_))
      · intro z gj6 hz
        clear hrow
        obtain ⟨xx, vo, Hr⟩ := z
        obtain ⟨hxx, hrow⟩ := hz
        simp only at hxx hrow
        refine CS.seq ?_
        refine CS.seq ?_
        refine CS.region ?_
        refine RS.q rfl (QO.move) ?_
        refine RS.q rfl (QO.fieldAddr fo23_0 (by rfl)) ?_
        first | (refine RS.q rfl (QO.load ty3 (by rfl) (by repeat (first | exact List.Mem.head _ | refine List.Mem.tail _ ?_)) (by rfl)) ?_) | (refine RS.q rfl (QO.loadO ty3 (by rfl) (by assumption)) ?_) | (refine RS.q rfl (QO.load ty3 (by rfl) (by repeat (first | exact List.Mem.head _ | refine List.Mem.tail _ ?_)) (by assumption)) ?_)
        refine RS.q rfl (QO.fieldAddr fo23_2 (by rfl)) ?_
        first | (refine RS.q rfl (QO.load ty3 (by rfl) (by repeat (first | exact List.Mem.head _ | refine List.Mem.tail _ ?_)) (by rfl)) ?_) | (refine RS.q rfl (QO.loadO ty3 (by rfl) (by assumption)) ?_) | (refine RS.q rfl (QO.load ty3 (by rfl) (by repeat (first | exact List.Mem.head _ | refine List.Mem.tail _ ?_)) (by assumption)) ?_)
        first | (refine RS.q rfl (QO.add (by rfl) (by rfl) (by omega) (by omega)) ?_) | (refine RS.q rfl (QO.ibin (by rfl) (by rfl) trivial) ?_)
        refine RS.q rfl (QO.lss (by rfl) (by rfl)) ?_
        refine RS.nil ?_
        refine thenC_n ?_
        refine CS.cond (by rfl) (fun hb1 => ?_) (fun hb1 => ?_)
        · have hb1p := of_decide_eq_true hb1
          refine CS.skip ?_
          refine thenC_n ?_
          refine CS.seq ?_
          refine CS.block ?_
          refine CS.seq ?_
          refine CS.region ?_
          refine RS.q rfl (QO.move) ?_
          refine RS.q rfl (QO.move) ?_
          refine RS.q rfl (QO.move) ?_
          refine RS.call rfl (by rfl) hok (by rfl) (fun w ho => hf _ _ ho (x + (xx : Int)) (y + (yy : Int)) (by omega) (by omega) (by omega) (by omega)) ?_
          rintro _ _ ⟨rfl, rfl⟩
          refine RS.q rfl (QO.move) ?_
          refine RS.nil ?_
          refine thenC_n ?_
          refine CS.block ?_
          have hxb : xx < a := by omega
          clear hxx
          have hbd := pix_bd hxb hyb
          rw [Nat.mul_comm yy a] at hbd
          have hwh : a * b ≤ 256 * 256 := Nat.mul_le_mul hw.2 hh.2
          refine CS.loop (X := Nat × Value × HL) (9 :: 38 :: 39 :: 40 :: 41 :: 42 :: 43 :: 44 :: 45 :: 46 :: 47 :: 48 :: []) (fun z => [(38, iv (z.1 : Int))]) (fun z => ⟨g5, 26, [iv x, iv y, iv (a : Int), iv (b : Int), z.2.1]⟩ :: ⟨g4, 26, [iv 0, iv 0, iv 0, iv 0, .slice none 0 0]⟩ :: ⟨g2, 23, [iv x, iv y, iv (a : Int), iv (b : Int)]⟩ :: z.2.2) (fun z => z.1 ≤ 4 ∧ Row 43 1 z.2.1 (4 * (a * yy + xx) + z.1) ((madeV p x y a (4 * (a * yy + xx) + z.1)).map flt) z.2.2) (fun z => 4 - z.1) (0, vo, Hr) ⟨by omega, hrow⟩ ?_ ?_ ?_
          · exact (by repeat (first | exact kn_nil | refine kn_cons (by rfl) ?_))
          · exact (by repeat (first | exact List.Sublist.refl _ | exact List.nil_sublist _ | refine List.Sublist.cons_cons _ ?_ | refine List.Sublist.cons _ ?_ | exact Sbp.refl | exact Sbp.nil | refine Sbp.cons (by repeat (first | exact Rem.head | apply Rem.tail)) ?_ | exact Sbp.app | refine Sbp.skip ?_))
          · intro z gj9 hz
            clear hrow
            obtain ⟨cc, vo, Hr⟩ := z
            obtain ⟨hcc, hrow⟩ := hz
            simp only at hcc hrow
            refine CS.seq ?_
            refine CS.region ?_
            refine RS.q rfl (QO.lss (by rfl) (by rfl)) ?_
            refine RS.nil ?_
            refine thenC_n ?_
            refine CS.seq ?_
            refine CS.cond (by rfl) (fun hb2 => ?_) (fun hb2 => ?_)
            · have hb2p := of_decide_eq_true hb2
              refine CS.skip ?_
              refine thenC_n ?_
              refine CS.seq ?_
              refine CS.block ?_
              refine CS.seq ?_
              refine CS.region ?_
              refine RS.q rfl (QO.index1 Try.underlying51 ty43 (by rfl) (by rfl) (by omega) (by omega) (idx4i (fun q => flt (p (x + (xx : Int)) (y + (yy : Int)) q)) cc (by omega))) ?_
              refine RS.q rfl (QO.assign) ?_
              refine RS.nil ?_
              refine thenC_n ?_
              refine CS.drawS (HS := [⟨g5, 26, [iv x, iv y, iv (a : Int), iv (b : Int), vo]⟩, ⟨g4, 26, [iv 0, iv 0, iv 0, iv 0, .slice none 0 0]⟩, ⟨g2, 23, [iv x, iv y, iv (a : Int), iv (b : Int)]⟩]) 7 (by repeat (first | exact List.Sublist.refl _ | exact List.nil_sublist _ | refine List.Sublist.cons_cons _ ?_ | refine List.Sublist.cons _ ?_ | exact Sbp.refl | exact Sbp.nil | refine Sbp.cons (by repeat (first | exact Rem.head | apply Rem.tail)) ?_ | exact Sbp.app | refine Sbp.skip ?_)) rfl (by kernel_rfl) (by kernel_rfl) ?_
              refine RT.take (i := 0) rfl (by kernel_rfl) rfl (QO.fieldAddr fo26_1 (by rfl)) ?_
              first | (refine RT.take (i := 1) rfl (by kernel_rfl) rfl (QO.load ty24 (by rfl) (by repeat (first | exact List.Mem.head _ | refine List.Mem.tail _ ?_)) (by rfl)) ?_) | (refine RT.take (i := 1) rfl (by kernel_rfl) rfl (QO.loadO ty24 (by rfl) (by assumption)) ?_) | (refine RT.take (i := 1) rfl (by kernel_rfl) rfl (QO.load ty24 (by rfl) (by repeat (first | exact List.Mem.head _ | refine List.Mem.tail _ ?_)) (by assumption)) ?_)
              refine RT.take (i := 2) rfl (by kernel_rfl) rfl (QO.move) ?_
              refine RT.one (i := 3) (by kernel_rfl) rfl rfl ?_
              refine RS.call rfl (by rfl) ok37 (by rfl) (fun w ho => fix _ _) ?_
              rintro _ _ ⟨rfl, rfl⟩
              refine RS.nil ⟨(by repeat (first | exact List.Sublist.refl _ | exact List.nil_sublist _ | refine List.Sublist.cons_cons _ ?_ | refine List.Sublist.cons _ ?_ | exact Sbp.refl | exact Sbp.nil | refine Sbp.cons (by repeat (first | exact Rem.head | apply Rem.tail)) ?_ | exact Sbp.app | refine Sbp.skip ?_)), ?_⟩
              refine RT.one (i := 4) (by kernel_rfl) rfl rfl ?_
              refine RS.buildSlice rfl Try.underlying24 ty43 (by decide) (by decide) (by rfl) (by rfl) ?_
              intro g45
              refine RS.nil ⟨(by repeat (first | exact List.Sublist.refl _ | exact List.nil_sublist _ | refine List.Sublist.cons_cons _ ?_ | refine List.Sublist.cons _ ?_ | exact Sbp.refl | exact Sbp.nil | refine Sbp.cons (by repeat (first | exact Rem.head | apply Rem.tail)) ?_ | exact Sbp.app | refine Sbp.skip ?_)), ?_⟩
              refine RT.one (i := 5) (by kernel_rfl) rfl rfl ?_
              refine RS.appendRow rfl Try.underlying24 ty43 (by rfl) hrow (by repeat (first | exact Suf.base | apply Suf.cons)) (by rfl) (Src.blk (by repeat (first | exact List.Mem.head _ | refine List.Mem.tail _ ?_))) (by rfl) (by rfl) (by decide) (by decide) (by unfold maxLen; omega) (by omega) ?_
              intro v46 H46 hrow46
              refine RS.nil ⟨(by repeat (first | exact List.Sublist.refl _ | exact List.nil_sublist _ | refine List.Sublist.cons_cons _ ?_ | refine List.Sublist.cons _ ?_ | exact Sbp.refl | exact Sbp.nil | refine Sbp.cons (by repeat (first | exact Rem.head | apply Rem.tail)) ?_ | exact Sbp.app | refine Sbp.skip ?_)), ?_⟩
              refine RT.take (i := 6) rfl (by kernel_rfl) rfl (QO.fieldAddr fo26_1 (by rfl)) ?_
              obtain ⟨A46, c46, rfl, hA46, hc46⟩ := hrow46.slice
              refine RT.tail (i := 7) (by kernel_rfl) rfl rfl ?_
              refine RS.store1 ty24 rfl (by rfl) (by rfl) (by rfl) (by repeat (first | exact Upd.head | apply Upd.tail)) (by first | (simp; done) | (simp; omega) | omega) ?_
              refine RS.nil ?_
              refine RT.done (by kernel_rfl) ?_
              refine blockC_n ?_
              refine thenC_n ?_
              refine CS.region ?_
              first | (refine RS.q rfl (QO.add (by rfl) (by rfl) (by omega) (by omega)) ?_) | (refine RS.q rfl (QO.ibin (by rfl) (by rfl) trivial) ?_)
              refine RS.q rfl (QO.move) ?_
              refine RS.nil ?_
              refine loopQ_n (by intro t ht; repeat (first | with_reducible exact rfl | exact frame_puts ht (frame_mix ht) _ rfl | (refine frame_put rfl ht ?_) | (refine frame_puts ht ?_ _ rfl) | exact frame_mix ht | (refine frame_mix2 rfl ht ?_) | exact rfl)) ?_
              have hrw : Row 43 1 (.slice A46 (4 * (a * yy + xx) + cc + 1) c46) (4 * (a * yy + xx) + cc + 1) ((madeV p x y a (4 * (a * yy + xx) + cc)).map flt ++ [flt (cl (p (x + (xx : Int)) (y + (yy : Int)) cc))]) H46 := hrow46
              exact ⟨(cc + 1, .slice A46 (4 * (a * yy + xx) + cc + 1) c46, H46), ⟨by show cc + 1 ≤ 4; omega, by show Row 43 1 (.slice A46 (4 * (a * yy + xx) + cc + 1) c46) (4 * (a * yy + xx) + (cc + 1)) ((madeV p x y a (4 * (a * yy + xx) + (cc + 1))).map flt) H46; rw [← Nat.add_assoc, madeV_succ, madeF_at hxb (by omega)]; simpa using hrw⟩, by show 4 - (cc + 1) < 4 - cc; omega, (by repeat (first | exact kn_nil | refine kn_cons (by rfl) ?_)), (by repeat (first | exact List.Sublist.refl _ | exact List.nil_sublist _ | refine List.Sublist.cons_cons _ ?_ | refine List.Sublist.cons _ ?_ | exact Sbp.refl | exact Sbp.nil | refine Sbp.cons (by repeat (first | exact Rem.head | apply Rem.tail)) ?_ | exact Sbp.app | refine Sbp.skip ?_))⟩
            · have hb2p := of_decide_eq_false hb2
              refine CS.exit ?_
              refine thenC_x ?_
              refine loopQ_x ?_
              refine blockC_x ?_
              refine blockC_n ?_
              refine thenC_n ?_
              refine CS.region ?_
              refine RS.q rfl (QO.move) ?_
              first | (refine RS.q rfl (QO.add (by rfl) (by rfl) (by omega) (by omega)) ?_) | (refine RS.q rfl (QO.ibin (by rfl) (by rfl) trivial) ?_)
              refine RS.q rfl (QO.assign) ?_
              refine RS.nil ?_
              refine loopQ_n (by intro t ht; repeat (first | with_reducible exact rfl | exact frame_puts ht (frame_mix ht) _ rfl | (refine frame_put rfl ht ?_) | (refine frame_puts ht ?_ _ rfl) | exact frame_mix ht | (refine frame_mix2 rfl ht ?_) | exact rfl)) ?_
              obtain rfl : cc = 4 := by omega
              exact ⟨(xx + 1, vo, Hr), ⟨by show xx + 1 ≤ a; omega, by rw [show 4 * (a * yy + (xx + 1)) = 4 * (a * yy + xx) + 4 by omega]; exact hrow⟩, by show a - (xx + 1) < a - xx; omega, kn_cons (congrArg iv (by show x + (xx : Int) + 1 = x + ((xx + 1 : Nat) : Int); omega)) kn_nil, (by repeat (first | exact List.Sublist.refl _ | exact List.nil_sublist _ | refine List.Sublist.cons_cons _ ?_ | refine List.Sublist.cons _ ?_ | exact Sbp.refl | exact Sbp.nil | refine Sbp.cons (by repeat (first | exact Rem.head | apply Rem.tail)) ?_ | exact Sbp.app | refine Sbp.skip ?_))⟩
        · have hb1p := of_decide_eq_false hb1
          refine CS.exit ?_
          refine thenC_x ?_
          refine loopQ_x ?_
          refine blockC_x ?_
          refine blockC_n ?_
          refine thenC_n ?_
          refine CS.region ?_
          refine RS.q rfl (QO.move) ?_
          first | (refine RS.q rfl (QO.add (by rfl) (by rfl) (by omega) (by omega)) ?_) | (refine RS.q rfl (QO.ibin (by rfl) (by rfl) trivial) ?_)
          refine RS.q rfl (QO.assign) ?_
          refine RS.nil ?_
          refine loopQ_n (by intro t ht; repeat (first | with_reducible exact rfl | exact frame_puts ht (frame_mix ht) _ rfl | (refine frame_put rfl ht ?_) | (refine frame_puts ht ?_ _ rfl) | exact frame_mix ht | (refine frame_mix2 rfl ht ?_) | exact rfl)) ?_
          obtain rfl : xx = a := by omega
          exact ⟨(yy + 1, vo, Hr), ⟨by show yy + 1 ≤ b; omega, by rw [Nat.mul_succ]; exact hrow⟩, by show b - (yy + 1) < b - yy; omega, kn_cons (congrArg iv (by show y + (yy : Int) + 1 = y + ((yy + 1 : Nat) : Int); omega)) kn_nil, (by repeat (first | exact List.Sublist.refl _ | exact List.nil_sublist _ | refine List.Sublist.cons_cons _ ?_ | refine List.Sublist.cons _ ?_ | exact Sbp.refl | exact Sbp.nil | refine Sbp.cons (by repeat (first | exact Rem.head | apply Rem.tail)) ?_ | exact Sbp.app | refine Sbp.skip ?_))⟩
    · have hb0p := of_decide_eq_false hb0
      refine CS.exit ?_
      refine thenC_x ?_
      refine loopQ_x ?_
      refine blockC_x ?_
      refine thenC_n ?_
      refine CS.seq ?_
      refine CS.region ?_
      obtain ⟨Ao, co, rfl, hoc, hom⟩ := hrow.slice
      first | (refine RS.q rfl (QO.loadB ty26 (by rfl) (by repeat (first | exact List.Mem.head _ | refine List.Mem.tail _ ?_)) (by rfl)) ?_) | (refine RS.q rfl (QO.loadA ty26 (by rfl) (by repeat (first | exact List.Mem.head _ | refine List.Mem.tail _ ?_)) (by rfl) (by rfl)) ?_) | (refine RS.q rfl (QO.loadOA ty26 (by rfl) (by assumption) (by rfl)) ?_)
      first | refine RS.storeB ty26 (by rfl) (by rfl) (by rfl) (by rfl) (by rfl) (by repeat (first | exact Upd.head | apply Upd.tail)) (by rfl) ?_ | refine RS.storeP ty26 (by rfl) (by rfl) (by rfl) (by rfl) (by rfl) (by repeat (first | exact Upd.head | apply Upd.tail)) (by rfl) ?_
      refine RS.nil ?_
      refine thenC_n ?_
      refine CS.ret ?_
      refine retQ.mk (H' := Hr) (.inr rfl) (RVs.cellA ty26 (by rfl) (by repeat (first | exact List.Mem.head _ | refine List.Mem.tail _ ?_)) (by rfl) RVs.nil) (by repeat (first | exact List.Sublist.refl _ | exact List.nil_sublist _ | refine List.Sublist.cons_cons _ ?_ | refine List.Sublist.cons _ ?_ | exact Sbp.refl | exact Sbp.nil | refine Sbp.cons (by repeat (first | exact Rem.head | apply Rem.tail)) ?_ | exact Sbp.app | refine Sbp.skip ?_)) ?_
      obtain rfl : yy = b := by omega
      exact ⟨_, rfl, hrow⟩

/-- A frame that a call hands back: its numbers stand in a block of its own. -/
def MadeR (x y wi he : Int) (vals : List Nat) (v : Value) (H : HL) : Prop := ∃ g cap junk, v = .agg #[iv x, iv y, iv wi, iv he, .slice (some ⟨g, 0, none⟩) vals.length cap] ∧ H = [⟨g, 43, vals.map flt ++ junk⟩] ∧ vals.length ≤ cap ∧ cap ≤ maxLen
theorem made' (x y : Int) (a b : Nat) (fc : FuncId) (cap : Array Value) (p : Int → Int → Nat → Nat) (W : World) (hok : callOK Try.prog fc = true) (hw : 1 ≤ a ∧ a ≤ 256) (hh : 1 ≤ b ∧ b ≤ 256) (hx : -1048576 ≤ x ∧ x ≤ 1048576) (hy : -1048576 ≤ y ∧ y ≤ 1048576) (hf : ∀ wd Hd, Own W wd Hd → ∀ X Y, x ≤ X → X < x + a → y ≤ Y → Y < y + b → Fn_ Try.prog fc (iv X :: iv Y :: cap.toList).toArray wd (fun v H => v = pxv (p X Y) ∧ H = [])) :
    Fn_ Try.prog 24 #[.agg #[iv x, iv y, iv (a : Int), iv (b : Int)], .func (.func fc) #[] cap] W (MadeR x y a b (madeV p x y a (4 * (a * b)))) := by
  refine (made x y a b fc cap p W hok hw hh hx hy hf).mono fun v H h => ?_
  obtain ⟨vs, rfl, hrow⟩ := h
  have h1 : 1 * 1 ≤ a * b := Nat.mul_le_mul hw.1 hh.1
  obtain ⟨g, c, j, rfl, rfl, hc, hm, _⟩ := hrow.some (by omega)
  exact ⟨g, c, j, by rw [madeV_len], rfl, by rw [madeV_len]; exact hc, hm⟩
theorem Own.cellAt {W w : World} {H : HL} {g : Nat} {t : TypeId} {cs : List Value} (ho : Own W w H) (hm : (⟨g, t, cs⟩ : B) ∈ H) {j : Nat} {v : Value} (hj : cs[j]? = some v) : w.cell? ((⟨g, 0, none⟩ : Addr).add j) = some v := by
  rw [addr_add, (ho.blk _ hm).2.cell, Nat.zero_add]; exact hj
theorem Own.cell0 {W w : World} {H : HL} {g : Nat} {t : TypeId} {cs : List Value} (ho : Own W w H) (hm : (⟨g, t, cs⟩ : B) ∈ H) {j : Nat} {v : Value} (hj : cs[j]? = some v) : w.cell? ⟨g, j, none⟩ = some v := by
  rw [(ho.blk _ hm).2.cell]; exact hj
/-- the numbers of a frame whose pixels are turned one by one -/
def eachV (T : Nat → (Nat → Nat) → Nat) (xs : List Nat) (m : Nat) : List Nat := (List.range m).map fun i => cl (T (i % 4) fun c => xs.getD (4 * (i / 4) + c) 0)
theorem madeV_each (xs : List Nat) (x y : Int) (a b : Nat) (T : Nat → (Nat → Nat) → Nat) : madeV (fun X Y c => T c (pixF xs x y a b X Y)) x y a (4 * (a * b)) = eachV T xs (4 * (a * b)) := by
  unfold madeV eachV
  exact List.map_congr_left fun i hi => madeF_pix (List.mem_range.1 hi) T
theorem eachV_id (xs : List Nat) (m : Nat) (h : xs.length = m) : eachV (fun c q => q c) xs m = xs.map cl := by
  unfold eachV
  apply List.ext_getElem
  · simp [h]
  · intro i h1 h2
    simp at h1 h2
    simp only [List.getElem_map, List.getElem_range]
    rw [Nat.div_add_mod, getD_at]
set_option maxRecDepth 100000 in
theorem rclean1 (q : Nat → Nat) (W : World) : Fn_ Try.prog 31 #[pxv q] W (fun v H => v = pxv q ∧ H = []) := by
  refine Fn_.intro Try.func31 rfl rfl (by rfl) ?_
  refine CS.seq ?_
  refine CS.region ?_
  refine RS.box rfl (by rfl) (by rfl) ?_
  intro g1
  refine RS.alloc rfl ty52 ?_
  intro g2
  refine RS.nil ?_
  refine thenC_n ?_
  refine CS.seq ?_
  refine CS.region ?_
  first | (refine RS.q rfl (QO.loadB ty52 (by rfl) (by repeat (first | exact List.Mem.head _ | refine List.Mem.tail _ ?_)) (by rfl)) ?_) | (refine RS.q rfl (QO.loadA ty52 (by rfl) (by repeat (first | exact List.Mem.head _ | refine List.Mem.tail _ ?_)) (by rfl) (by rfl)) ?_) | (refine RS.q rfl (QO.loadOA ty52 (by rfl) (by assumption) (by rfl)) ?_)
  first | refine RS.storeB ty52 (by rfl) (by rfl) (by rfl) (by rfl) (by rfl) (by repeat (first | exact Upd.head | apply Upd.tail)) (by rfl) ?_ | refine RS.storeP ty52 (by rfl) (by rfl) (by rfl) (by rfl) (by rfl) (by repeat (first | exact Upd.head | apply Upd.tail)) (by rfl) ?_
  refine RS.nil ?_
  refine thenC_n ?_
  refine CS.ret ?_
  refine retQ.mk (H' := []) (.inr rfl) (RVs.cellA ty52 (by rfl) (by repeat (first | exact List.Mem.head _ | refine List.Mem.tail _ ?_)) (by rfl) RVs.nil) (List.nil_sublist _) ?_
  exact ⟨rfl, rfl⟩

end Go.Proofs.Ytdfbeigjinhgiaa

namespace Go.Proofs.Ytdfbeigjinhgiaa
open Go Go.Proofs Go.RowKit

theorem eqt23 : intsT Try.prog 23 = 4 := by kernel_rfl
/-- Planes that come in: four slices. -/
abbrev plsv (A : Nat → Option Addr) (n c : Nat → Nat) : List Value := [.slice (A 0) (n 0) (c 0), .slice (A 1) (n 1) (c 1), .slice (A 2) (n 2) (c 2), .slice (A 3) (n 3) (c 3)]
/-- what FromPlanes finds -/
def fpErr (x y wi he : Int) (n : Nat → Nat) : Int := if regErr x y wi he ≠ 0 then regErr x y wi he else if (List.range 4).all (fun k => decide ((n k : Int) = wi * he)) = true then 0 else 2
theorem fpErr_ok {x y wi he : Int} {n : Nat → Nat} (h : regErr x y wi he = 0) (hn : ∀ k, k < 4 → (n k : Int) = wi * he) : fpErr x y wi he n = 0 := by
  unfold fpErr
  rw [if_neg (by simpa using h), if_pos (List.all_eq_true.2 fun k hk => by simpa using hn k (List.mem_range.1 hk))]
/-- the numbers of a frame of planes -/
def fpV (xs : Nat → List Nat) (N : Nat) : List Nat := (List.range N).map fun i => cl ((xs (i % 4)).getD (i / 4) 0)
def FPR (x y wi he : Int) (n : Nat → Nat) (xs : Nat → List Nat) (v : Value) (H : HL) : Prop :=
  (fpErr x y wi he n ≠ 0 ∧ v = .tuple #[.agg #[iv 0, iv 0, iv 0, iv 0, .slice none 0 0], iv (fpErr x y wi he n)] ∧ H = []) ∨
  (fpErr x y wi he n = 0 ∧ ∃ (g N : Nat), (N : Int) = 4 * wi * he ∧ v = .tuple #[.agg #[iv x, iv y, iv wi, iv he, .slice (some ⟨g, 0, none⟩) N N], iv 0] ∧ H = [⟨g, 43, (fpV xs N).map flt⟩])

theorem take_more {xs ys : List Nat} {k : Nat} (h : xs.take k = ys.take k) (h1 : k < xs.length) (h2 : k < ys.length) (he : ((xs[k] : Nat) : Int) = (ys[k] : Nat)) : xs.take (k + 1) = ys.take (k + 1) := by
  rw [List.take_add_one, List.take_add_one, h, List.getElem?_eq_getElem h1, List.getElem?_eq_getElem h2, Int.ofNat.inj he]
theorem take_whole {xs ys : List Nat} {k : Nat} (h : xs.take k = ys.take k) (h1 : xs.length = k) (h2 : ys.length = k) : xs = ys := by
  rw [List.take_of_length_le (by omega), List.take_of_length_le (by omega)] at h
  exact h

set_option maxRecDepth 100000 in
theorem sameFrame (x y wi he x' y' wi' he' : Int) (A A' : Option Addr) (n n' c c' : Nat) (xs xs' : List Nat) (W : World) (hn : xs.length = n) (hn' : xs'.length = n') (hA : FS W A xs) (hA' : FS W A' xs') (hm : n ≤ maxLen) : Fn_ Try.prog 12 #[.agg #[iv x, iv y, iv wi, iv he, .slice A n c], .agg #[iv x', iv y', iv wi', iv he', .slice A' n' c']] W (fun v H => v = .bool (decide ([x, y, wi, he] = [x', y', wi', he'] ∧ xs = xs')) ∧ H = []) := by
  unfold maxLen at hm
  refine Fn_.intro Try.func12 rfl rfl (by rfl) ?_
  refine CS.seq ?_
  refine CS.region ?_
  refine RS.box rfl (by rfl) (by rfl) ?_
  intro g2
  refine RS.box rfl (by rfl) (by rfl) ?_
  intro g3
  refine RS.q rfl (QO.assign) ?_
  refine RS.nil ?_
  refine thenC_n ?_
  refine CS.seq ?_
  refine CS.seq ?_
  refine CS.region ?_
  refine RS.q rfl (QO.fieldAddr fo26_0 (by rfl)) ?_
  first | (refine RS.q rfl (QO.loadB ty23 (by rfl) (by repeat (first | exact List.Mem.head _ | refine List.Mem.tail _ ?_)) (by rfl)) ?_) | (refine RS.q rfl (QO.loadA ty23 (by rfl) (by repeat (first | exact List.Mem.head _ | refine List.Mem.tail _ ?_)) (by rfl) (by rfl)) ?_) | (refine RS.q rfl (QO.loadOA ty23 (by rfl) (by assumption) (by rfl)) ?_)
  refine RS.q rfl (QO.fieldAddr fo26_0 (by rfl)) ?_
  first | (refine RS.q rfl (QO.loadB ty23 (by rfl) (by repeat (first | exact List.Mem.head _ | refine List.Mem.tail _ ?_)) (by rfl)) ?_) | (refine RS.q rfl (QO.loadA ty23 (by rfl) (by repeat (first | exact List.Mem.head _ | refine List.Mem.tail _ ?_)) (by rfl) (by rfl)) ?_) | (refine RS.q rfl (QO.loadOA ty23 (by rfl) (by assumption) (by rfl)) ?_)
  first | (refine RS.q rfl (QO.sneq4 eqt23 (by rfl) (by rfl)) ?_) | (refine RS.q rfl (QO.sneq eqt23 (by decide) (by rfl) (by rfl) (by rfl) (by rfl)) ?_)
  refine RS.q rfl (QO.move) ?_
  refine RS.split (dj := 11) (by rfl) (fun hb0 => ?_) (fun hb0 => ?_)
  · have hb0p := bne_iff_ne.1 hb0
    refine RS.off (dj := 11) rfl (.inl (congrArg Value.bool hb0)) (fun _ => rfl) rfl ?_
    refine RS.off (dj := 11) rfl (.inl (congrArg Value.bool hb0)) (fun _ => rfl) rfl ?_
    refine RS.off (dj := 11) rfl (.inl (congrArg Value.bool hb0)) (fun _ => rfl) rfl ?_
    refine RS.off (dj := 11) rfl (.inl (congrArg Value.bool hb0)) (fun _ => rfl) rfl ?_
    refine RS.off (dj := 11) rfl (.inl (congrArg Value.bool hb0)) (fun _ => rfl) rfl ?_
    refine RS.off (dj := 11) rfl (.inl (congrArg Value.bool hb0)) (fun _ => rfl) rfl ?_
    refine RS.off (dj := 11) rfl (.inl (congrArg Value.bool hb0)) (fun _ => rfl) rfl ?_
    refine RS.q rfl (QO.pickT (by rfl) hb0 (by rfl)) ?_
    refine RS.nil ?_
    refine thenC_n ?_
    refine CS.condT (by rfl) rfl ?_
    refine CS.seq ?_
    refine CS.region ?_
    refine RS.q rfl (QO.assign) ?_
    refine RS.nil ?_
    refine thenC_n ?_
    refine CS.ret ?_
    refine thenC_r ?_
    refine retQ.mk (H' := []) (.inr rfl) (RVs.tmp (by rfl) RVs.nil) (List.nil_sublist _) ?_
    exact ⟨congrArg Value.bool (decide_eq_false fun h => hb0p h.1).symm, rfl⟩
  · have hb0p := of_bne_false hb0
    refine RS.on (dj := 11) rfl (congrArg Value.bool hb0) ?_
    refine RS.q rfl (QO.fieldAddr fo26_1 (by rfl)) ?_
    refine RS.on (dj := 11) rfl (congrArg Value.bool hb0) ?_
    first | (refine RS.q rfl (QO.load ty24 (by rfl) (by repeat (first | exact List.Mem.head _ | refine List.Mem.tail _ ?_)) (by rfl)) ?_) | (refine RS.q rfl (QO.loadO ty24 (by rfl) (by assumption)) ?_) | (refine RS.q rfl (QO.load ty24 (by rfl) (by repeat (first | exact List.Mem.head _ | refine List.Mem.tail _ ?_)) (by assumption)) ?_)
    refine RS.on (dj := 11) rfl (congrArg Value.bool hb0) ?_
    refine RS.q rfl (QO.lenS Try.underlying24 (by rfl)) ?_
    refine RS.on (dj := 11) rfl (congrArg Value.bool hb0) ?_
    refine RS.q rfl (QO.fieldAddr fo26_1 (by rfl)) ?_
    refine RS.on (dj := 11) rfl (congrArg Value.bool hb0) ?_
    first | (refine RS.q rfl (QO.load ty24 (by rfl) (by repeat (first | exact List.Mem.head _ | refine List.Mem.tail _ ?_)) (by rfl)) ?_) | (refine RS.q rfl (QO.loadO ty24 (by rfl) (by assumption)) ?_) | (refine RS.q rfl (QO.load ty24 (by rfl) (by repeat (first | exact List.Mem.head _ | refine List.Mem.tail _ ?_)) (by assumption)) ?_)
    refine RS.on (dj := 11) rfl (congrArg Value.bool hb0) ?_
    refine RS.q rfl (QO.lenS Try.underlying24 (by rfl)) ?_
    refine RS.on (dj := 11) rfl (congrArg Value.bool hb0) ?_
    refine RS.q rfl (QO.neq (by rfl) (by rfl)) ?_
    refine RS.q rfl (QO.pickF (by rfl) hb0 (by rfl)) ?_
    refine RS.nil ?_
    refine thenC_n ?_
    refine CS.cond (by rfl) (fun hb1 => ?_) (fun hb1 => ?_)
    · have hb1p := bne_iff_ne.1 hb1
      refine CS.seq ?_
      refine CS.region ?_
      refine RS.q rfl (QO.assign) ?_
      refine RS.nil ?_
      refine thenC_n ?_
      refine CS.ret ?_
      refine thenC_r ?_
      refine retQ.mk (H' := []) (.inr rfl) (RVs.tmp (by rfl) RVs.nil) (List.nil_sublist _) ?_
      exact ⟨congrArg Value.bool (decide_eq_false fun h => by have h9 := h.2; subst h9; omega).symm, rfl⟩
    · have hb1p := of_bne_false hb1
      refine CS.skip ?_
      refine thenC_n ?_
      refine CS.seq ?_
      refine CS.seq ?_
      refine CS.region ?_
      refine RS.q rfl (QO.fieldAddr fo26_1 (by rfl)) ?_
      first | (refine RS.q rfl (QO.load ty24 (by rfl) (by repeat (first | exact List.Mem.head _ | refine List.Mem.tail _ ?_)) (by rfl)) ?_) | (refine RS.q rfl (QO.loadO ty24 (by rfl) (by assumption)) ?_) | (refine RS.q rfl (QO.load ty24 (by rfl) (by repeat (first | exact List.Mem.head _ | refine List.Mem.tail _ ?_)) (by assumption)) ?_)
      refine RS.q rfl (QO.lenS Try.underlying24 (by rfl)) ?_
      refine RS.q rfl (QO.move) ?_
      refine RS.nil ?_
      refine thenC_n ?_
      refine CS.block ?_
      have hll : n = n' := by have := of_bne_false hb1; omega
      refine CS.loop (X := Nat) (4 :: 5 :: 23 :: 24 :: 25 :: 26 :: 27 :: 28 :: 29 :: 30 :: 31 :: 32 :: 33 :: 34 :: 35 :: 36 :: 37 :: 38 :: 39 :: []) (fun k => [(23, iv (k : Int))]) (fun k => [⟨g3, 26, [iv x', iv y', iv wi', iv he', .slice A' n' c']⟩, ⟨g2, 26, [iv x, iv y, iv wi, iv he, .slice A n c]⟩]) (fun k => k ≤ n ∧ xs.take k = xs'.take k) (fun k => n - k) 0 ⟨Nat.zero_le _, rfl⟩ ?_ ?_ ?_
      · exact (by repeat (first | exact kn_nil | refine kn_cons (by rfl) ?_))
      · exact (by repeat (first | exact List.Sublist.refl _ | exact List.nil_sublist _ | refine List.Sublist.cons_cons _ ?_ | refine List.Sublist.cons _ ?_ | exact Sbp.refl | exact Sbp.nil | refine Sbp.cons (by repeat (first | exact Rem.head | apply Rem.tail)) ?_ | exact Sbp.app | refine Sbp.skip ?_))
      · intro k gj4 hz
        obtain ⟨hk, hz⟩ := hz
        refine CS.seq ?_
        refine CS.region ?_
        refine RS.q rfl (QO.lss (by rfl) (by rfl)) ?_
        refine RS.nil ?_
        refine thenC_n ?_
        refine CS.seq ?_
        refine CS.cond (by rfl) (fun hb2 => ?_) (fun hb2 => ?_)
        · have hb2p := of_decide_eq_true hb2
          refine CS.skip ?_
          refine thenC_n ?_
          refine CS.seq ?_
          refine CS.block ?_
          refine CS.seq ?_
          refine CS.region ?_
          refine RS.q rfl (QO.move) ?_
          refine RS.q rfl (QO.assign) ?_
          refine RS.nil ?_
          refine thenC_n ?_
          refine CS.seq ?_
          refine CS.draw 13 rfl (by kernel_rfl) (by kernel_rfl) ?_
          refine RT.take (i := 0) rfl (by kernel_rfl) rfl (QO.fieldAddr fo26_1 (by rfl)) ?_
          first | (refine RT.take (i := 1) rfl (by kernel_rfl) rfl (QO.load ty24 (by rfl) (by repeat (first | exact List.Mem.head _ | refine List.Mem.tail _ ?_)) (by rfl)) ?_) | (refine RT.take (i := 1) rfl (by kernel_rfl) rfl (QO.loadO ty24 (by rfl) (by assumption)) ?_) | (refine RT.take (i := 1) rfl (by kernel_rfl) rfl (QO.load ty24 (by rfl) (by repeat (first | exact List.Mem.head _ | refine List.Mem.tail _ ?_)) (by assumption)) ?_)
          refine RT.take (i := 2) rfl (by kernel_rfl) rfl (QO.move) ?_
          have hlt : k < xs.length := by omega
          have hlt' : k < xs'.length := by omega
          obtain ⟨bA, oA, rfl, hcell⟩ := hA (by omega)
          obtain ⟨bA', oA', rfl, hcell'⟩ := hA' (by omega)
          first | (refine RT.take (i := 3) rfl (by kernel_rfl) rfl (QO.idx0 Try.underlying24 ty43 (by rfl) (by rfl) (by rfl) (by omega)) ?_) | (refine RT.take (i := 3) rfl (by kernel_rfl) rfl (QO.idxn Try.underlying24 ty43 (by rfl) (by rfl) (by rfl) (by omega)) ?_) | (refine RT.take (i := 3) rfl (by kernel_rfl) rfl (QO.idx1 Try.underlying24 ty43 (by rfl) (by rfl) (by omega) (by omega)) ?_)
          refine RT.take (i := 4) rfl (by kernel_rfl) rfl (QO.loadO ty43 (by rfl) (hcell _ _ (List.getElem?_eq_getElem hlt))) ?_
          refine RT.take (i := 5) rfl (by kernel_rfl) rfl (QO.ext (by rfl) (ext29 _)) ?_
          refine RT.take (i := 6) rfl (by kernel_rfl) rfl (QO.fieldAddr fo26_1 (by rfl)) ?_
          first | (refine RT.take (i := 7) rfl (by kernel_rfl) rfl (QO.load ty24 (by rfl) (by repeat (first | exact List.Mem.head _ | refine List.Mem.tail _ ?_)) (by rfl)) ?_) | (refine RT.take (i := 7) rfl (by kernel_rfl) rfl (QO.loadO ty24 (by rfl) (by assumption)) ?_) | (refine RT.take (i := 7) rfl (by kernel_rfl) rfl (QO.load ty24 (by rfl) (by repeat (first | exact List.Mem.head _ | refine List.Mem.tail _ ?_)) (by assumption)) ?_)
          refine RT.take (i := 8) rfl (by kernel_rfl) rfl (QO.move) ?_
          first | (refine RT.take (i := 9) rfl (by kernel_rfl) rfl (QO.idx0 Try.underlying24 ty43 (by rfl) (by rfl) (by rfl) (by omega)) ?_) | (refine RT.take (i := 9) rfl (by kernel_rfl) rfl (QO.idxn Try.underlying24 ty43 (by rfl) (by rfl) (by rfl) (by omega)) ?_) | (refine RT.take (i := 9) rfl (by kernel_rfl) rfl (QO.idx1 Try.underlying24 ty43 (by rfl) (by rfl) (by omega) (by omega)) ?_)
          refine RT.take (i := 10) rfl (by kernel_rfl) rfl (QO.loadO ty43 (by rfl) (hcell' _ _ (List.getElem?_eq_getElem hlt'))) ?_
          refine RT.take (i := 11) rfl (by kernel_rfl) rfl (QO.ext (by rfl) (ext29 _)) ?_
          refine RT.take (i := 12) rfl (by kernel_rfl) rfl (QO.neq (by rfl) (by rfl)) ?_
          refine RT.done (by kernel_rfl) ?_
          refine thenC_n ?_
          refine CS.cond (by rfl) (fun hb3 => ?_) (fun hb3 => ?_)
          · have hb3p := bne_iff_ne.1 hb3
            refine CS.seq ?_
            refine CS.region ?_
            refine RS.q rfl (QO.assign) ?_
            refine RS.nil ?_
            refine thenC_n ?_
            refine CS.ret ?_
            refine blockC_r ?_
            refine thenC_r ?_
            refine loopQ_r ?_
            refine blockC_r ?_
            refine thenC_r ?_
            refine retQ.mk (H' := []) (.inr rfl) (RVs.tmp (by rfl) RVs.nil) (List.nil_sublist _) ?_
            exact ⟨congrArg Value.bool (decide_eq_false fun h => by have h9 := h.2; subst h9; exact hb3p rfl).symm, rfl⟩
          · have hb3p := of_bne_false hb3
            refine CS.skip ?_
            refine blockC_n ?_
            refine thenC_n ?_
            refine CS.region ?_
            first | (refine RS.q rfl (QO.add (by rfl) (by rfl) (by omega) (by omega)) ?_) | (refine RS.q rfl (QO.ibin (by rfl) (by rfl) trivial) ?_)
            refine RS.q rfl (QO.move) ?_
            refine RS.nil ?_
            refine loopQ_n (by intro t ht; repeat (first | with_reducible exact rfl | exact frame_puts ht (frame_mix ht) _ rfl | (refine frame_put rfl ht ?_) | (refine frame_puts ht ?_ _ rfl) | exact frame_mix ht | (refine frame_mix2 rfl ht ?_) | exact rfl)) ?_
            exact ⟨k + 1, ⟨by omega, take_more hz hlt hlt' (of_bne_false hb3)⟩, by omega, (by repeat (first | exact kn_nil | refine kn_cons (by rfl) ?_)), (by repeat (first | exact List.Sublist.refl _ | exact List.nil_sublist _ | refine List.Sublist.cons_cons _ ?_ | refine List.Sublist.cons _ ?_ | exact Sbp.refl | exact Sbp.nil | refine Sbp.cons (by repeat (first | exact Rem.head | apply Rem.tail)) ?_ | exact Sbp.app | refine Sbp.skip ?_))⟩
        · have hb2p := of_decide_eq_false hb2
          refine CS.exit ?_
          refine thenC_x ?_
          refine loopQ_x ?_
          refine blockC_x ?_
          refine thenC_n ?_
          refine CS.seq ?_
          refine CS.region ?_
          refine RS.q rfl (QO.assign) ?_
          refine RS.nil ?_
          refine thenC_n ?_
          refine CS.ret ?_
          refine retQ.mk (H' := []) (.inr rfl) (RVs.tmp (by rfl) RVs.nil) (List.nil_sublist _) ?_
          have hkn : k = n := by omega
          exact ⟨congrArg Value.bool (decide_eq_true ⟨of_bne_false hb0, take_whole hz (by omega) (by omega)⟩).symm, rfl⟩

end Go.Proofs.Ytdfbeigjinhgiaa

namespace Go.Proofs.Ytdfbeigjinhgiaa
open Go Go.Proofs Go.RowKit

theorem ok12 : callOK Try.prog 12 = true := by kernel_rfl
theorem ok13 : callOK Try.prog 13 = true := by kernel_rfl
theorem ok20 : callOK Try.prog 20 = true := by kernel_rfl

theorem regErr_small {X Y : Int} {a b : Nat} (ha : 1 ≤ a ∧ a ≤ 8) (hb : 1 ≤ b ∧ b ≤ 8) (hX : -1000 ≤ X ∧ X ≤ 1000) (hY : -1000 ≤ Y ∧ Y ≤ 1000) : regErr X Y a b = 0 := by
  have h5 : a * b ≤ 8 * 8 := Nat.mul_le_mul ha.2 hb.2
  have h6 : ((a * b : Nat) : Int) = (a : Int) * (b : Int) := Int.natCast_mul ..
  unfold regErr outR
  rw [if_neg (by omega), if_neg (by omega), if_neg (by simp; omega)]
theorem fit' (x y wi he : Int) (A : Option Addr) (n c : Nat) (xs : List Nat) (W : World) (hn : xs.length = n) (hA : FS W A xs) (hlx : n ≤ maxLen) : Fn_ Try.prog 5 #[.agg #[iv x, iv y, iv wi, iv he, .slice A n c]] W (fun v H =>
    ∃ (g : Nat) (X Y : Int) (a b : Nat) (ys : List Nat), v = .agg #[iv X, iv Y, iv (a : Int), iv (b : Int), .slice (some ⟨g, 0, none⟩) ys.length ys.length] ∧ H = [⟨g, 43, ys.map flt⟩] ∧
      ys.length = 4 * (a * b) ∧ (1 ≤ a ∧ a ≤ 8) ∧ (1 ≤ b ∧ b ≤ 8) ∧ (-1000 ≤ X ∧ X ≤ 1000) ∧ (-1000 ≤ Y ∧ Y ≤ 1000) ∧ a * b ≤ 64) := by
  refine (fit x y wi he A n c xs W hn hA hlx).mono fun v H h => ?_
  obtain ⟨g, rfl, rfl⟩ := h
  have h1 := and7_bd wi
  have h2 := and7_bd he
  have h3 := clamp_bd x
  have h4 := clamp_bd y
  obtain ⟨a, ha⟩ : ∃ a : Nat, 1 + and7 wi = (a : Int) := ⟨(1 + and7 wi).toNat, by omega⟩
  obtain ⟨b, hb⟩ : ∃ b : Nat, 1 + and7 he = (b : Int) := ⟨(1 + and7 he).toNat, by omega⟩
  have h7 := fitN_eq wi he
  have h6 : ((a * b : Nat) : Int) = (a : Int) * (b : Int) := Int.natCast_mul ..
  have h8 : fitN wi he = 4 * (a * b) := by rw [ha, hb] at h7; omega
  have h9 : (fitV xs wi he).length = fitN wi he := fitV_len _ _ _
  rw [ha, hb] at h7
  refine ⟨g, clamp x, clamp y, a, b, fitV xs wi he, by rw [ha, hb, h9], rfl, by rw [h9, h8], by omega, by omega, h3, h4, by omega⟩
theorem sameTrue (x y wi he : Int) (A A' : Option Addr) (n n' c c' : Nat) (xs : List Nat) (W : World) (hn : xs.length = n) (hn' : xs.length = n') (hA : FS W A xs) (hA' : FS W A' xs) (hm : n ≤ maxLen) :
    Fn_ Try.prog 12 #[.agg #[iv x, iv y, iv wi, iv he, .slice A n c], .agg #[iv x, iv y, iv wi, iv he, .slice A' n' c']] W (fun v H => v = .bool true ∧ H = []) := by
  refine (sameFrame x y wi he x y wi he A A' n n' c c' xs xs W hn hn' hA hA' hm).mono fun v H h => ?_
  obtain ⟨rfl, rfl⟩ := h
  simp
/-- four planes, as far as they are there -/
def gsL (G : Nat → Nat) (m k : Nat) : List Value := (List.range 4).map fun i => if i < k then .slice (some ⟨G i, 0, none⟩) m m else .slice none 0 0
theorem fpV_planes (ys : List Nat) (m : Nat) (h : ys.length = 4 * m) : fpV (fun i => planeV ys (i : Int) m) (4 * m) = ys.map cl := by
  unfold fpV
  apply List.ext_getElem
  · simp [h]
  · intro i h1 h2
    simp at h1 h2
    have h3 : i / 4 < m := by omega
    have h4 : (planeV ys ((i % 4 : Nat) : Int) m)[i / 4]? = some (planeF ys ((i % 4 : Nat) : Int) (i / 4)) := by
      unfold planeV
      rw [List.getElem?_map, List.getElem?_range h3]; rfl
    have h5 : (4 * ((i / 4 : Nat) : Int) + ((i % 4 : Nat) : Int)).toNat = i := by omega
    simp only [List.getElem_map, List.getElem_range]
    rw [List.getD_eq_getElem?_getD, h4]
    show cl (planeF ys ((i % 4 : Nat) : Int) (i / 4)) = _
    unfold planeF
    rw [cl_cl, h5, getD_at]
theorem FPR.ok {x y : Int} {a b : Nat} {ys : List Nat} {v : Value} {H : HL} (hr : regErr x y a b = 0) (hN : ys.length = 4 * (a * b)) (h : FPR x y a b (fun _ => a * b) (fun i => planeV ys (i : Int) (a * b)) v H) :
    ∃ g, v = .tuple #[.agg #[iv x, iv y, iv (a : Int), iv (b : Int), .slice (some ⟨g, 0, none⟩) ys.length ys.length], iv 0] ∧ H = [⟨g, 43, (ys.map cl).map flt⟩] := by
  have h6 : ((a * b : Nat) : Int) = (a : Int) * (b : Int) := Int.natCast_mul ..
  have h7 : 4 * (a : Int) * (b : Int) = 4 * ((a : Int) * (b : Int)) := Int.mul_assoc ..
  have h0 : fpErr x y a b (fun _ => a * b) = 0 := fpErr_ok hr fun _ _ => h6
  rcases h with ⟨h1, _⟩ | ⟨_, g, N, hNN, rfl, rfl⟩
  · exact absurd h0 h1
  · obtain rfl : N = 4 * (a * b) := by omega
    rw [fpV_planes _ _ hN, ← hN]
    exact ⟨g, rfl, rfl⟩
theorem FPR.any {x y wi he : Int} {n : Nat → Nat} {xs : Nat → List Nat} {v : Value} {H : HL} (h : FPR x y wi he n xs v H) :
    ∃ (x9 y9 w9 h9 : Int) (A9 : Option Addr) (n9 : Nat), v = .tuple #[.agg #[iv x9, iv y9, iv w9, iv h9, .slice A9 n9 n9], iv (fpErr x y wi he n)] ∧ (fpErr x y wi he n ≠ 0 → n9 = 0) := by
  rcases h with ⟨h1, rfl, rfl⟩ | ⟨h1, g, N, hNN, rfl, rfl⟩
  · exact ⟨_, _, _, _, _, _, rfl, fun _ => rfl⟩
  · rw [h1]
    exact ⟨_, _, _, _, _, _, rfl, fun h => absurd rfl h⟩
/-- what the law makes of the planes -/
def wkErr (x y wi he : Int) (n : Nat → Nat) (k : Nat) : Int := if regErr x y wi he ≠ 0 then regErr x y wi he else if (List.range k).all (fun k => decide ((n k : Int) = wi * he)) = true then 0 else 2
end Go.Proofs.Ytdfbeigjinhgiaa

namespace Go.Proofs.Ytdfbeigjinhgiaa
open Go Go.Proofs Go.RowKit

theorem pl23 : places Try.prog 23 = some #[(0, 1), (1, 1), (2, 1), (3, 1)] := by kernel_rfl
/-- is the first region inside the second -/
def insB (ax ay aw ah bx bz bw bh : Int) : Bool := decide (bx ≤ ax ∧ bz ≤ ay ∧ ax ≤ bx + bw - aw ∧ ay ≤ bz + bh - ah)
def smallI (x : Int) : Prop := -4611686018427387904 ≤ x ∧ x ≤ 2305843009213693952

set_option maxRecDepth 100000 in
theorem rinside (ax ay aw ah bx bz bw bh : Int) (W : World) (h1 : -1000000000 ≤ bx ∧ bx ≤ 1000000000) (h2 : -1000000000 ≤ bz ∧ bz ≤ 1000000000) (h3 : -1000000000 ≤ bw ∧ bw ≤ 1000000000) (h4 : -1000000000 ≤ bh ∧ bh ≤ 1000000000) (h5 : -1000000000 ≤ aw ∧ aw ≤ 1000000000) (h6 : -1000000000 ≤ ah ∧ ah ≤ 1000000000) : Fn_ Try.prog 22 #[.agg #[iv ax, iv ay, iv aw, iv ah], .agg #[iv bx, iv bz, iv bw, iv bh]] W (fun v H => v = .bool (insB ax ay aw ah bx bz bw bh) ∧ H = []) := by
  refine Fn_.intro Try.func22 rfl rfl (by rfl) ?_
  refine CS.seq ?_
  refine CS.region ?_
  refine RS.box rfl (by rfl) (by rfl) ?_
  intro g2
  refine RS.box rfl (by rfl) (by rfl) ?_
  intro g3
  refine RS.q rfl (QO.assign) ?_
  refine RS.nil ?_
  refine thenC_n ?_
  refine CS.seq ?_
  refine CS.region ?_
  refine RS.q rfl (QO.fieldAddr fo23_0 (by rfl)) ?_
  first | (refine RS.q rfl (QO.load ty3 (by rfl) (by repeat (first | exact List.Mem.head _ | refine List.Mem.tail _ ?_)) (by rfl)) ?_) | (refine RS.q rfl (QO.loadO ty3 (by rfl) (by assumption)) ?_) | (refine RS.q rfl (QO.load ty3 (by rfl) (by repeat (first | exact List.Mem.head _ | refine List.Mem.tail _ ?_)) (by assumption)) ?_)
  refine RS.q rfl (QO.fieldAddr fo23_0 (by rfl)) ?_
  first | (refine RS.q rfl (QO.load ty3 (by rfl) (by repeat (first | exact List.Mem.head _ | refine List.Mem.tail _ ?_)) (by rfl)) ?_) | (refine RS.q rfl (QO.loadO ty3 (by rfl) (by assumption)) ?_) | (refine RS.q rfl (QO.load ty3 (by rfl) (by repeat (first | exact List.Mem.head _ | refine List.Mem.tail _ ?_)) (by assumption)) ?_)
  refine RS.q rfl (QO.geq (by rfl) (by rfl)) ?_
  refine RS.q rfl (QO.move) ?_
  refine RS.split (dj := 10) (by rfl) (fun hb0 => ?_) (fun hb0 => ?_)
  · have hb0p := of_decide_eq_true hb0
    refine RS.on (dj := 10) rfl (congrArg Value.bool hb0) ?_
    refine RS.q rfl (QO.fieldAddr fo23_1 (by rfl)) ?_
    refine RS.on (dj := 10) rfl (congrArg Value.bool hb0) ?_
    first | (refine RS.q rfl (QO.load ty3 (by rfl) (by repeat (first | exact List.Mem.head _ | refine List.Mem.tail _ ?_)) (by rfl)) ?_) | (refine RS.q rfl (QO.loadO ty3 (by rfl) (by assumption)) ?_) | (refine RS.q rfl (QO.load ty3 (by rfl) (by repeat (first | exact List.Mem.head _ | refine List.Mem.tail _ ?_)) (by assumption)) ?_)
    refine RS.on (dj := 10) rfl (congrArg Value.bool hb0) ?_
    refine RS.q rfl (QO.fieldAddr fo23_1 (by rfl)) ?_
    refine RS.on (dj := 10) rfl (congrArg Value.bool hb0) ?_
    first | (refine RS.q rfl (QO.load ty3 (by rfl) (by repeat (first | exact List.Mem.head _ | refine List.Mem.tail _ ?_)) (by rfl)) ?_) | (refine RS.q rfl (QO.loadO ty3 (by rfl) (by assumption)) ?_) | (refine RS.q rfl (QO.load ty3 (by rfl) (by repeat (first | exact List.Mem.head _ | refine List.Mem.tail _ ?_)) (by assumption)) ?_)
    refine RS.on (dj := 10) rfl (congrArg Value.bool hb0) ?_
    refine RS.q rfl (QO.geq (by rfl) (by rfl)) ?_
    refine RS.q rfl (QO.pickT (by rfl) hb0 (by rfl)) ?_
    refine RS.q rfl (QO.move) ?_
    refine RS.split (dj := 17) (by rfl) (fun hb1 => ?_) (fun hb1 => ?_)
    · have hb1p := of_decide_eq_true hb1
      refine RS.on (dj := 17) rfl (congrArg Value.bool hb1) ?_
      refine RS.q rfl (QO.fieldAddr fo23_0 (by rfl)) ?_
      refine RS.on (dj := 17) rfl (congrArg Value.bool hb1) ?_
      first | (refine RS.q rfl (QO.load ty3 (by rfl) (by repeat (first | exact List.Mem.head _ | refine List.Mem.tail _ ?_)) (by rfl)) ?_) | (refine RS.q rfl (QO.loadO ty3 (by rfl) (by assumption)) ?_) | (refine RS.q rfl (QO.load ty3 (by rfl) (by repeat (first | exact List.Mem.head _ | refine List.Mem.tail _ ?_)) (by assumption)) ?_)
      refine RS.on (dj := 17) rfl (congrArg Value.bool hb1) ?_
      refine RS.q rfl (QO.fieldAddr fo23_0 (by rfl)) ?_
      refine RS.on (dj := 17) rfl (congrArg Value.bool hb1) ?_
      first | (refine RS.q rfl (QO.load ty3 (by rfl) (by repeat (first | exact List.Mem.head _ | refine List.Mem.tail _ ?_)) (by rfl)) ?_) | (refine RS.q rfl (QO.loadO ty3 (by rfl) (by assumption)) ?_) | (refine RS.q rfl (QO.load ty3 (by rfl) (by repeat (first | exact List.Mem.head _ | refine List.Mem.tail _ ?_)) (by assumption)) ?_)
      refine RS.on (dj := 17) rfl (congrArg Value.bool hb1) ?_
      refine RS.q rfl (QO.fieldAddr fo23_2 (by rfl)) ?_
      refine RS.on (dj := 17) rfl (congrArg Value.bool hb1) ?_
      first | (refine RS.q rfl (QO.load ty3 (by rfl) (by repeat (first | exact List.Mem.head _ | refine List.Mem.tail _ ?_)) (by rfl)) ?_) | (refine RS.q rfl (QO.loadO ty3 (by rfl) (by assumption)) ?_) | (refine RS.q rfl (QO.load ty3 (by rfl) (by repeat (first | exact List.Mem.head _ | refine List.Mem.tail _ ?_)) (by assumption)) ?_)
      refine RS.on (dj := 17) rfl (congrArg Value.bool hb1) ?_
      first | (refine RS.q rfl (QO.add (by rfl) (by rfl) (by omega) (by omega)) ?_) | (refine RS.q rfl (QO.ibin (by rfl) (by rfl) trivial) ?_)
      refine RS.on (dj := 17) rfl (congrArg Value.bool hb1) ?_
      refine RS.q rfl (QO.fieldAddr fo23_2 (by rfl)) ?_
      refine RS.on (dj := 17) rfl (congrArg Value.bool hb1) ?_
      first | (refine RS.q rfl (QO.load ty3 (by rfl) (by repeat (first | exact List.Mem.head _ | refine List.Mem.tail _ ?_)) (by rfl)) ?_) | (refine RS.q rfl (QO.loadO ty3 (by rfl) (by assumption)) ?_) | (refine RS.q rfl (QO.load ty3 (by rfl) (by repeat (first | exact List.Mem.head _ | refine List.Mem.tail _ ?_)) (by assumption)) ?_)
      refine RS.on (dj := 17) rfl (congrArg Value.bool hb1) ?_
      first | (refine RS.q rfl (QO.sub (by rfl) (by rfl) (by omega) (by omega)) ?_) | (refine RS.q rfl (QO.ibin (by rfl) (by rfl) trivial) ?_)
      refine RS.on (dj := 17) rfl (congrArg Value.bool hb1) ?_
      refine RS.q rfl (QO.leq (by rfl) (by rfl)) ?_
      refine RS.q rfl (QO.pickT (by rfl) hb1 (by rfl)) ?_
      refine RS.q rfl (QO.move) ?_
      refine RS.split (dj := 30) (by rfl) (fun hb2 => ?_) (fun hb2 => ?_)
      · have hb2p := of_decide_eq_true hb2
        refine RS.on (dj := 30) rfl (congrArg Value.bool hb2) ?_
        refine RS.q rfl (QO.fieldAddr fo23_1 (by rfl)) ?_
        refine RS.on (dj := 30) rfl (congrArg Value.bool hb2) ?_
        first | (refine RS.q rfl (QO.load ty3 (by rfl) (by repeat (first | exact List.Mem.head _ | refine List.Mem.tail _ ?_)) (by rfl)) ?_) | (refine RS.q rfl (QO.loadO ty3 (by rfl) (by assumption)) ?_) | (refine RS.q rfl (QO.load ty3 (by rfl) (by repeat (first | exact List.Mem.head _ | refine List.Mem.tail _ ?_)) (by assumption)) ?_)
        refine RS.on (dj := 30) rfl (congrArg Value.bool hb2) ?_
        refine RS.q rfl (QO.fieldAddr fo23_1 (by rfl)) ?_
        refine RS.on (dj := 30) rfl (congrArg Value.bool hb2) ?_
        first | (refine RS.q rfl (QO.load ty3 (by rfl) (by repeat (first | exact List.Mem.head _ | refine List.Mem.tail _ ?_)) (by rfl)) ?_) | (refine RS.q rfl (QO.loadO ty3 (by rfl) (by assumption)) ?_) | (refine RS.q rfl (QO.load ty3 (by rfl) (by repeat (first | exact List.Mem.head _ | refine List.Mem.tail _ ?_)) (by assumption)) ?_)
        refine RS.on (dj := 30) rfl (congrArg Value.bool hb2) ?_
        refine RS.q rfl (QO.fieldAddr fo23_3 (by rfl)) ?_
        refine RS.on (dj := 30) rfl (congrArg Value.bool hb2) ?_
        first | (refine RS.q rfl (QO.load ty3 (by rfl) (by repeat (first | exact List.Mem.head _ | refine List.Mem.tail _ ?_)) (by rfl)) ?_) | (refine RS.q rfl (QO.loadO ty3 (by rfl) (by assumption)) ?_) | (refine RS.q rfl (QO.load ty3 (by rfl) (by repeat (first | exact List.Mem.head _ | refine List.Mem.tail _ ?_)) (by assumption)) ?_)
        refine RS.on (dj := 30) rfl (congrArg Value.bool hb2) ?_
        first | (refine RS.q rfl (QO.add (by rfl) (by rfl) (by omega) (by omega)) ?_) | (refine RS.q rfl (QO.ibin (by rfl) (by rfl) trivial) ?_)
        refine RS.on (dj := 30) rfl (congrArg Value.bool hb2) ?_
        refine RS.q rfl (QO.fieldAddr fo23_3 (by rfl)) ?_
        refine RS.on (dj := 30) rfl (congrArg Value.bool hb2) ?_
        first | (refine RS.q rfl (QO.load ty3 (by rfl) (by repeat (first | exact List.Mem.head _ | refine List.Mem.tail _ ?_)) (by rfl)) ?_) | (refine RS.q rfl (QO.loadO ty3 (by rfl) (by assumption)) ?_) | (refine RS.q rfl (QO.load ty3 (by rfl) (by repeat (first | exact List.Mem.head _ | refine List.Mem.tail _ ?_)) (by assumption)) ?_)
        refine RS.on (dj := 30) rfl (congrArg Value.bool hb2) ?_
        first | (refine RS.q rfl (QO.sub (by rfl) (by rfl) (by omega) (by omega)) ?_) | (refine RS.q rfl (QO.ibin (by rfl) (by rfl) trivial) ?_)
        refine RS.on (dj := 30) rfl (congrArg Value.bool hb2) ?_
        refine RS.q rfl (QO.leq (by rfl) (by rfl)) ?_
        refine RS.q rfl (QO.pickT (by rfl) hb2 (by rfl)) ?_
        refine RS.q rfl (QO.assign) ?_
        refine RS.nil ?_
        refine thenC_n ?_
        refine CS.ret ?_
        refine retQ.mk (H' := []) (.inr rfl) (RVs.tmp (by rfl) RVs.nil) (List.nil_sublist _) ?_
        exact ⟨congrArg Value.bool (by unfold insB; first | exact (decide_eq_false (by omega)).symm | exact decide_eq_decide.2 (by omega)), rfl⟩
      · have hb2p := of_decide_eq_false hb2
        refine RS.off (dj := 30) rfl (.inl (congrArg Value.bool hb2)) (fun _ => rfl) rfl ?_
        refine RS.off (dj := 30) rfl (.inl (congrArg Value.bool hb2)) (fun _ => rfl) rfl ?_
        refine RS.off (dj := 30) rfl (.inl (congrArg Value.bool hb2)) (fun _ => rfl) rfl ?_
        refine RS.off (dj := 30) rfl (.inl (congrArg Value.bool hb2)) (fun _ => rfl) rfl ?_
        refine RS.off (dj := 30) rfl (.inl (congrArg Value.bool hb2)) (fun _ => rfl) rfl ?_
        refine RS.off (dj := 30) rfl (.inl (congrArg Value.bool hb2)) (fun _ => rfl) rfl ?_
        refine RS.off (dj := 30) rfl (.inl (congrArg Value.bool hb2)) (fun _ => rfl) rfl ?_
        refine RS.off (dj := 30) rfl (.inl (congrArg Value.bool hb2)) (fun _ => rfl) rfl ?_
        refine RS.off (dj := 30) rfl (.inl (congrArg Value.bool hb2)) (fun _ => rfl) rfl ?_
        refine RS.off (dj := 30) rfl (.inl (congrArg Value.bool hb2)) (fun _ => rfl) rfl ?_
        refine RS.off (dj := 30) rfl (.inl (congrArg Value.bool hb2)) (fun _ => rfl) rfl ?_
        refine RS.q rfl (QO.pickF (by rfl) hb2 (by rfl)) ?_
        refine RS.q rfl (QO.assign) ?_
        refine RS.nil ?_
        refine thenC_n ?_
        refine CS.ret ?_
        refine retQ.mk (H' := []) (.inr rfl) (RVs.tmp (by rfl) RVs.nil) (List.nil_sublist _) ?_
        exact ⟨congrArg Value.bool (by unfold insB; first | exact (decide_eq_false (by omega)).symm | exact decide_eq_decide.2 (by omega)), rfl⟩
    · have hb1p := of_decide_eq_false hb1
      refine RS.off (dj := 17) rfl (.inl (congrArg Value.bool hb1)) (fun _ => rfl) rfl ?_
      refine RS.off (dj := 17) rfl (.inl (congrArg Value.bool hb1)) (fun _ => rfl) rfl ?_
      refine RS.off (dj := 17) rfl (.inl (congrArg Value.bool hb1)) (fun _ => rfl) rfl ?_
      refine RS.off (dj := 17) rfl (.inl (congrArg Value.bool hb1)) (fun _ => rfl) rfl ?_
      refine RS.off (dj := 17) rfl (.inl (congrArg Value.bool hb1)) (fun _ => rfl) rfl ?_
      refine RS.off (dj := 17) rfl (.inl (congrArg Value.bool hb1)) (fun _ => rfl) rfl ?_
      refine RS.off (dj := 17) rfl (.inl (congrArg Value.bool hb1)) (fun _ => rfl) rfl ?_
      refine RS.off (dj := 17) rfl (.inl (congrArg Value.bool hb1)) (fun _ => rfl) rfl ?_
      refine RS.off (dj := 17) rfl (.inl (congrArg Value.bool hb1)) (fun _ => rfl) rfl ?_
      refine RS.off (dj := 17) rfl (.inl (congrArg Value.bool hb1)) (fun _ => rfl) rfl ?_
      refine RS.off (dj := 17) rfl (.inl (congrArg Value.bool hb1)) (fun _ => rfl) rfl ?_
      refine RS.q rfl (QO.pickF (by rfl) hb1 (by rfl)) ?_
      refine RS.q rfl (QO.move) ?_
      refine RS.off (dj := 30) rfl (.inl (congrArg Value.bool rfl)) (fun _ => rfl) rfl ?_
      refine RS.off (dj := 30) rfl (.inl (congrArg Value.bool rfl)) (fun _ => rfl) rfl ?_
      refine RS.off (dj := 30) rfl (.inl (congrArg Value.bool rfl)) (fun _ => rfl) rfl ?_
      refine RS.off (dj := 30) rfl (.inl (congrArg Value.bool rfl)) (fun _ => rfl) rfl ?_
      refine RS.off (dj := 30) rfl (.inl (congrArg Value.bool rfl)) (fun _ => rfl) rfl ?_
      refine RS.off (dj := 30) rfl (.inl (congrArg Value.bool rfl)) (fun _ => rfl) rfl ?_
      refine RS.off (dj := 30) rfl (.inl (congrArg Value.bool rfl)) (fun _ => rfl) rfl ?_
      refine RS.off (dj := 30) rfl (.inl (congrArg Value.bool rfl)) (fun _ => rfl) rfl ?_
      refine RS.off (dj := 30) rfl (.inl (congrArg Value.bool rfl)) (fun _ => rfl) rfl ?_
      refine RS.off (dj := 30) rfl (.inl (congrArg Value.bool rfl)) (fun _ => rfl) rfl ?_
      refine RS.off (dj := 30) rfl (.inl (congrArg Value.bool rfl)) (fun _ => rfl) rfl ?_
      refine RS.q rfl (QO.pickF (by rfl) rfl (by rfl)) ?_
      refine RS.q rfl (QO.assign) ?_
      refine RS.nil ?_
      refine thenC_n ?_
      refine CS.ret ?_
      refine retQ.mk (H' := []) (.inr rfl) (RVs.tmp (by rfl) RVs.nil) (List.nil_sublist _) ?_
      exact ⟨congrArg Value.bool (by unfold insB; first | exact (decide_eq_false (by omega)).symm | exact decide_eq_decide.2 (by omega)), rfl⟩
  · have hb0p := of_decide_eq_false hb0
    refine RS.off (dj := 10) rfl (.inl (congrArg Value.bool hb0)) (fun _ => rfl) rfl ?_
    refine RS.off (dj := 10) rfl (.inl (congrArg Value.bool hb0)) (fun _ => rfl) rfl ?_
    refine RS.off (dj := 10) rfl (.inl (congrArg Value.bool hb0)) (fun _ => rfl) rfl ?_
    refine RS.off (dj := 10) rfl (.inl (congrArg Value.bool hb0)) (fun _ => rfl) rfl ?_
    refine RS.off (dj := 10) rfl (.inl (congrArg Value.bool hb0)) (fun _ => rfl) rfl ?_
    refine RS.q rfl (QO.pickF (by rfl) hb0 (by rfl)) ?_
    refine RS.q rfl (QO.move) ?_
    refine RS.off (dj := 17) rfl (.inl (congrArg Value.bool rfl)) (fun _ => rfl) rfl ?_
    refine RS.off (dj := 17) rfl (.inl (congrArg Value.bool rfl)) (fun _ => rfl) rfl ?_
    refine RS.off (dj := 17) rfl (.inl (congrArg Value.bool rfl)) (fun _ => rfl) rfl ?_
    refine RS.off (dj := 17) rfl (.inl (congrArg Value.bool rfl)) (fun _ => rfl) rfl ?_
    refine RS.off (dj := 17) rfl (.inl (congrArg Value.bool rfl)) (fun _ => rfl) rfl ?_
    refine RS.off (dj := 17) rfl (.inl (congrArg Value.bool rfl)) (fun _ => rfl) rfl ?_
    refine RS.off (dj := 17) rfl (.inl (congrArg Value.bool rfl)) (fun _ => rfl) rfl ?_
    refine RS.off (dj := 17) rfl (.inl (congrArg Value.bool rfl)) (fun _ => rfl) rfl ?_
    refine RS.off (dj := 17) rfl (.inl (congrArg Value.bool rfl)) (fun _ => rfl) rfl ?_
    refine RS.off (dj := 17) rfl (.inl (congrArg Value.bool rfl)) (fun _ => rfl) rfl ?_
    refine RS.off (dj := 17) rfl (.inl (congrArg Value.bool rfl)) (fun _ => rfl) rfl ?_
    refine RS.q rfl (QO.pickF (by rfl) rfl (by rfl)) ?_
    refine RS.q rfl (QO.move) ?_
    refine RS.off (dj := 30) rfl (.inl (congrArg Value.bool rfl)) (fun _ => rfl) rfl ?_
    refine RS.off (dj := 30) rfl (.inl (congrArg Value.bool rfl)) (fun _ => rfl) rfl ?_
    refine RS.off (dj := 30) rfl (.inl (congrArg Value.bool rfl)) (fun _ => rfl) rfl ?_
    refine RS.off (dj := 30) rfl (.inl (congrArg Value.bool rfl)) (fun _ => rfl) rfl ?_
    refine RS.off (dj := 30) rfl (.inl (congrArg Value.bool rfl)) (fun _ => rfl) rfl ?_
    refine RS.off (dj := 30) rfl (.inl (congrArg Value.bool rfl)) (fun _ => rfl) rfl ?_
    refine RS.off (dj := 30) rfl (.inl (congrArg Value.bool rfl)) (fun _ => rfl) rfl ?_
    refine RS.off (dj := 30) rfl (.inl (congrArg Value.bool rfl)) (fun _ => rfl) rfl ?_
    refine RS.off (dj := 30) rfl (.inl (congrArg Value.bool rfl)) (fun _ => rfl) rfl ?_
    refine RS.off (dj := 30) rfl (.inl (congrArg Value.bool rfl)) (fun _ => rfl) rfl ?_
    refine RS.off (dj := 30) rfl (.inl (congrArg Value.bool rfl)) (fun _ => rfl) rfl ?_
    refine RS.q rfl (QO.pickF (by rfl) rfl (by rfl)) ?_
    refine RS.q rfl (QO.assign) ?_
    refine RS.nil ?_
    refine thenC_n ?_
    refine CS.ret ?_
    refine retQ.mk (H' := []) (.inr rfl) (RVs.tmp (by rfl) RVs.nil) (List.nil_sublist _) ?_
    exact ⟨congrArg Value.bool (by unfold insB; first | exact (decide_eq_false (by omega)).symm | exact decide_eq_decide.2 (by omega)), rfl⟩

/-- a frame brought to another region -/
def likeV (xs : List Nat) (N : Nat) : List Nat := (List.range N).map fun i => xs.getD (i % xs.length) 0
/-- do the first k numbers of pixel i agree -/
def sameK (ys zs : List Nat) (i k : Nat) : Bool := (List.range k).all fun c => ((cl (ys.getD (4 * i + c) 0) : Nat) : Int) == (cl (zs.getD (4 * i + c) 0) : Nat)
/-- how many of the first m pixels differ -/
def cnt (ys zs : List Nat) : Nat → Nat
  | 0 => 0
  | m + 1 => cnt ys zs m + if sameK ys zs m 4 then 0 else 1
/-- the box holds every pixel that differs -/
def boxOK (ys zs : List Nat) (a : Nat) (k : Nat) (L T R B : Int) : Prop := ∀ i, i < k → sameK ys zs i 4 = false → L ≤ ((i % a : Nat) : Int) ∧ T ≤ ((i / a : Nat) : Int) ∧ ((i % a : Nat) : Int) + 1 ≤ R ∧ ((i / a : Nat) : Int) + 1 ≤ B
end Go.Proofs.Ytdfbeigjinhgiaa

namespace Go.Proofs.Ytdfbeigjinhgiaa
open Go Go.Proofs Go.RowKit

theorem ty30 : tyChk Try.prog 30 = some ([.int .i64 0], false, 8) := by kernel_rfl
theorem ok36 : callOK Try.prog 36 = true := by kernel_rfl
theorem ok35 : callOK Try.prog 35 = true := by kernel_rfl
/-- what a mix of two numbers gives -/
def lerpV (a b t : Nat) : Nat := if fcmpB .eql t 0 then cl a else if fcmpB .eql t 1065353216 then cl b else fo .add a (fo .mul (fo .sub b a) t)
def f2 {α : Type} (a b : α) (k : Nat) : α := if k = 0 then a else b
/-- what is wrong with a matte -/
def mErr (x y w h : Int) (n : Nat) : Int := if regErr x y w h ≠ 0 then regErr x y w h else if (n : Int) ≠ w * h then 2 else 0
set_option maxRecDepth 100000 in
theorem when (is : Bool) (e : Int) (W : World) : Fn_ Try.prog 36 #[.bool is, iv e] W (fun v H => v = iv (if is then e else 0) ∧ H = []) := by
  refine Fn_.intro Try.func36 rfl rfl (by rfl) ?_
  refine CS.seq ?_
  refine CS.region ?_
  refine RS.q rfl (QO.assign) ?_
  refine RS.nil ?_
  refine thenC_n ?_
  refine CS.seq ?_
  refine CS.seq ?_
  refine CS.region ?_
  refine RS.q rfl (QO.move) ?_
  refine RS.nil ?_
  refine thenC_n ?_
  refine CS.cond (by rfl) (fun hb0 => ?_) (fun hb0 => ?_)
  · refine CS.seq ?_
    refine CS.region ?_
    refine RS.q rfl (QO.move) ?_
    refine RS.q rfl (QO.assign) ?_
    refine RS.nil ?_
    refine thenC_n ?_
    refine CS.ret ?_
    refine thenC_r ?_
    refine retQ.mk (H' := []) (.inr rfl) (RVs.tmp (by rfl) RVs.nil) (List.nil_sublist _) ?_
    exact ⟨congrArg iv (by rw [hb0]; rfl), rfl⟩
  · refine CS.skip ?_
    refine thenC_n ?_
    refine CS.seq ?_
    refine CS.region ?_
    refine RS.q rfl (QO.assign) ?_
    refine RS.nil ?_
    refine thenC_n ?_
    refine CS.ret ?_
    refine retQ.mk (H' := []) (.inr rfl) (RVs.tmp (by rfl) RVs.nil) (List.nil_sublist _) ?_
    exact ⟨congrArg iv (by rw [hb0]; rfl), rfl⟩

set_option maxRecDepth 100000 in
theorem first2 (a b : Int) (g : Nat) (W : World) (hcell : ∀ j v, [iv a, iv b][j]? = some v → W.cell? ⟨g, j, none⟩ = some v) : Fn_ Try.prog 35 #[.slice (some ⟨g, 0, none⟩) 2 2] W (fun v H => v = iv (if a ≠ 0 then a else b) ∧ H = []) := by
  refine Fn_.intro Try.func35 rfl rfl (by rfl) ?_
  refine CS.seq ?_
  refine CS.region ?_
  refine RS.q rfl (QO.assign) ?_
  refine RS.nil ?_
  refine thenC_n ?_
  refine CS.seq ?_
  refine CS.seq ?_
  refine CS.region ?_
  refine RS.q rfl (QO.move) ?_
  refine RS.q rfl (QO.lenS Try.underlying73 (by rfl)) ?_
  refine RS.q rfl (QO.move) ?_
  refine RS.nil ?_
  refine thenC_n ?_
  refine CS.block ?_
  refine CS.loop (X := Nat) [2, 4, 7, 8, 9, 10, 11, 12, 13, 14] (fun k => [(7, iv (k : Int))]) (fun k => []) (fun k => k ≤ 2 ∧ ∀ j, j < k → f2 a b j = 0) (fun k => 2 - k) 0 ⟨Nat.zero_le _, fun j hj => absurd hj (Nat.not_lt_zero _)⟩ ?_ ?_ ?_
  · exact (by repeat (first | exact kn_nil | refine kn_cons (by rfl) ?_))
  · exact (by repeat (first | exact List.Sublist.refl _ | exact List.nil_sublist _ | refine List.Sublist.cons_cons _ ?_ | refine List.Sublist.cons _ ?_ | exact Sbp.refl | exact Sbp.nil | refine Sbp.cons (by repeat (first | exact Rem.head | apply Rem.tail)) ?_ | exact Sbp.app | refine Sbp.skip ?_))
  · intro k gj2 hz
    obtain ⟨hk, hz⟩ := hz
    refine CS.seq ?_
    refine CS.region ?_
    refine RS.q rfl (QO.lss (by rfl) (by rfl)) ?_
    refine RS.nil ?_
    refine thenC_n ?_
    refine CS.seq ?_
    refine CS.cond (by rfl) (fun hb0 => ?_) (fun hb0 => ?_)
    · have hb0p := of_decide_eq_true hb0
      refine CS.skip ?_
      refine thenC_n ?_
      refine CS.seq ?_
      refine CS.block ?_
      refine CS.seq ?_
      refine CS.region ?_
      first | (refine RS.q rfl (QO.idx0 Try.underlying73 ty30 (by rfl) (by rfl) (by rfl) (by omega)) ?_) | (refine RS.q rfl (QO.idxn Try.underlying73 ty30 (by rfl) (by rfl) (by rfl) (by omega)) ?_) | (refine RS.q rfl (QO.idx1 Try.underlying73 ty30 (by rfl) (by rfl) (by omega) (by omega)) ?_)
      refine RS.q rfl (QO.loadO ty30 (v := iv (f2 a b k)) (by rfl) (hcell _ _ (show [iv a, iv b][k]? = some (iv (f2 a b k)) from by
    match k, (show k < 2 by omega) with
    | 0, _ => rfl
    | 1, _ => rfl))) ?_
      refine RS.q rfl (QO.assign) ?_
      refine RS.nil ?_
      refine thenC_n ?_
      refine CS.seq ?_
      refine CS.region ?_
      refine RS.q rfl (QO.move) ?_
      refine RS.q rfl (QO.neq (by rfl) (by rfl)) ?_
      refine RS.nil ?_
      refine thenC_n ?_
      refine CS.cond (by rfl) (fun hb1 => ?_) (fun hb1 => ?_)
      · have hb1p := bne_iff_ne.1 hb1
        refine CS.seq ?_
        refine CS.region ?_
        refine RS.q rfl (QO.move) ?_
        refine RS.q rfl (QO.assign) ?_
        refine RS.nil ?_
        refine thenC_n ?_
        refine CS.ret ?_
        refine blockC_r ?_
        refine thenC_r ?_
        refine loopQ_r ?_
        refine blockC_r ?_
        refine thenC_r ?_
        refine retQ.mk (H' := []) (.inr rfl) (RVs.tmp (by rfl) RVs.nil) (List.nil_sublist _) ?_
        exact ⟨congrArg iv (show f2 a b k = if a ≠ 0 then a else b from by
            match k, (show k < 2 by omega), hz with
            | 0, _, _ => exact (if_pos hb1p).symm
            | 1, _, h9 => exact (if_neg (Decidable.not_not.2 (h9 0 (by omega)))).symm), rfl⟩
      · have hb1p := of_bne_false hb1
        refine CS.skip ?_
        refine blockC_n ?_
        refine thenC_n ?_
        refine CS.region ?_
        first | (refine RS.q rfl (QO.add (by rfl) (by rfl) (by omega) (by omega)) ?_) | (refine RS.q rfl (QO.ibin (by rfl) (by rfl) trivial) ?_)
        refine RS.q rfl (QO.move) ?_
        refine RS.nil ?_
        refine loopQ_n (by intro t ht; repeat (first | with_reducible exact rfl | exact frame_puts ht (frame_mix ht) _ rfl | (refine frame_put rfl ht ?_) | (refine frame_puts ht ?_ _ rfl) | exact frame_mix ht | (refine frame_mix2 rfl ht ?_) | exact rfl)) ?_
        exact ⟨k + 1, ⟨by omega, fun j hj => by
            by_cases e : j = k
            · subst e; exact of_bne_false hb1
            · exact hz j (by omega)⟩, by omega, (by repeat (first | exact kn_nil | refine kn_cons (by rfl) ?_)), (by repeat (first | exact List.Sublist.refl _ | exact List.nil_sublist _ | refine List.Sublist.cons_cons _ ?_ | refine List.Sublist.cons _ ?_ | exact Sbp.refl | exact Sbp.nil | refine Sbp.cons (by repeat (first | exact Rem.head | apply Rem.tail)) ?_ | exact Sbp.app | refine Sbp.skip ?_))⟩
    · have hb0p := of_decide_eq_false hb0
      refine CS.exit ?_
      refine thenC_x ?_
      refine loopQ_x ?_
      refine blockC_x ?_
      refine thenC_n ?_
      refine CS.seq ?_
      refine CS.region ?_
      refine RS.q rfl (QO.assign) ?_
      refine RS.nil ?_
      refine thenC_n ?_
      refine CS.ret ?_
      refine retQ.mk (H' := []) (.inr rfl) (RVs.tmp (by rfl) RVs.nil) (List.nil_sublist _) ?_
      obtain rfl : k = 2 := by omega
      exact ⟨congrArg iv (by rw [if_neg (Decidable.not_not.2 (show a = 0 from hz 0 (by omega)))]; exact (hz 1 (by omega)).symm), rfl⟩

/-- what a call that hands back a frame or an error comes to -/
def FrR (err X Y wi he : Int) (vals : List Nat) (v : Value) (H : HL) : Prop :=
  (err = 0 ∧ ∃ g cap junk, v = .tuple #[.agg #[iv X, iv Y, iv wi, iv he, .slice (some ⟨g, 0, none⟩) vals.length cap], iv 0] ∧ H = [⟨g, 43, vals.map flt ++ junk⟩] ∧ vals.length ≤ cap ∧ cap ≤ maxLen) ∨
  (err ≠ 0 ∧ v = .tuple #[.agg #[iv 0, iv 0, iv 0, iv 0, .slice none 0 0], iv err] ∧ H = [])
def FV (err X Y wi he : Int) (vals : List Nat) (x y w h : Int) (A : Option Addr) (n : Nat) (H : HL) : Prop :=
  (err ≠ 0 ∧ x = 0 ∧ y = 0 ∧ w = 0 ∧ h = 0 ∧ n = 0) ∨ (err = 0 ∧ x = X ∧ y = Y ∧ w = wi ∧ h = he ∧ n = vals.length ∧ n ≤ maxLen ∧ ∃ g junk, A = some ⟨g, 0, none⟩ ∧ (⟨g, 43, vals.map flt ++ junk⟩ : B) ∈ H)
theorem FrR.any {err X Y wi he : Int} {vals : List Nat} {v : Value} {H : HL} (h : FrR err X Y wi he vals v H) :
    ∃ (x y w h : Int) (A : Option Addr) (n c : Nat), v = .tuple #[.agg #[iv x, iv y, iv w, iv h, .slice A n c], iv err] ∧ FV err X Y wi he vals x y w h A n H := by
  rcases h with ⟨h1, g, cap, junk, rfl, rfl, h2, h3⟩ | ⟨h1, rfl, rfl⟩
  · subst h1
    exact ⟨_, _, _, _, _, _, _, rfl, .inr ⟨rfl, rfl, rfl, rfl, rfl, rfl, by omega, g, junk, rfl, List.Mem.head _⟩⟩
  · exact ⟨_, _, _, _, _, _, _, rfl, .inl ⟨h1, rfl, rfl, rfl, rfl, rfl⟩⟩
/-- the same, in a world -/
def FW (err X Y wi he : Int) (vals : List Nat) (x y w h : Int) (A : Option Addr) (n : Nat) (W : World) : Prop :=
  (err ≠ 0 ∧ x = 0 ∧ y = 0 ∧ w = 0 ∧ h = 0 ∧ n = 0) ∨ (err = 0 ∧ x = X ∧ y = Y ∧ w = wi ∧ h = he ∧ n = vals.length ∧ n ≤ maxLen ∧ FS W A vals)
theorem FV.fw {err X Y wi he : Int} {vals : List Nat} {x y w h : Int} {A : Option Addr} {n : Nat} {H H' : HL} {W0 W : World} (hv : FV err X Y wi he vals x y w h A n H) (ho : Own W0 W H') (hs : ∀ b ∈ H, b ∈ H') : FW err X Y wi he vals x y w h A n W := by
  rcases hv with h1 | ⟨h1, h2, h3, h4, h5, h6, h7, g, junk, rfl, hm⟩
  · exact .inl h1
  · exact .inr ⟨h1, h2, h3, h4, h5, h6, h7, FS.blk ho (hs _ hm)⟩

set_option maxRecDepth 100000 in
theorem alike (err X Y wi he : Int) (vals : List Nat) (x y w_ h x' y' w' h' : Int) (A A' : Option Addr) (n c n' c' : Nat) (W : World) (h1 : FW err X Y wi he vals x y w_ h A n W) (h2 : FW err X Y wi he vals x' y' w' h' A' n' W) : Fn_ Try.prog 8 #[.agg #[iv x, iv y, iv w_, iv h, .slice A n c], iv err, .agg #[iv x', iv y', iv w', iv h', .slice A' n' c'], iv err] W (fun v H => v = .bool true ∧ H = []) := by
  refine Fn_.intro Try.func8 rfl rfl (by rfl) ?_
  refine CS.seq ?_
  refine CS.region ?_
  refine RS.box rfl (by rfl) (by rfl) ?_
  intro g4
  refine RS.box rfl (by rfl) (by rfl) ?_
  intro g6
  refine RS.q rfl (QO.assign) ?_
  refine RS.nil ?_
  refine thenC_n ?_
  refine CS.seq ?_
  refine CS.seq ?_
  refine CS.region ?_
  refine RS.q rfl (QO.move) ?_
  refine RS.q rfl (QO.move) ?_
  refine RS.qv rfl (QO.neq (by rfl) (by rfl)) (congrArg Value.bool (bne_self_eq_false err)) ?_
  refine RS.nil ?_
  refine thenC_n ?_
  refine CS.condF (by rfl) rfl ?_
  refine CS.skip ?_
  refine thenC_n ?_
  refine CS.seq ?_
  refine CS.seq ?_
  refine CS.region ?_
  refine RS.q rfl (QO.move) ?_
  refine RS.q rfl (QO.neq (by rfl) (by rfl)) ?_
  refine RS.nil ?_
  refine thenC_n ?_
  refine CS.cond (by rfl) (fun hb0 => ?_) (fun hb0 => ?_)
  · have hb0p := bne_iff_ne.1 hb0
    refine CS.seq ?_
    refine CS.region ?_
    obtain ⟨_, rfl, rfl, rfl, rfl, rfl⟩ := h1.resolve_right (fun hh => hb0p hh.1)
    refine RS.q rfl (QO.fieldAddr fo26_0 (by rfl)) ?_
    first | (refine RS.q rfl (QO.loadB ty23 (by rfl) (by repeat (first | exact List.Mem.head _ | refine List.Mem.tail _ ?_)) (by rfl)) ?_) | (refine RS.q rfl (QO.loadA ty23 (by rfl) (by repeat (first | exact List.Mem.head _ | refine List.Mem.tail _ ?_)) (by rfl) (by rfl)) ?_) | (refine RS.q rfl (QO.loadOA ty23 (by rfl) (by assumption) (by rfl)) ?_)
    refine RS.q rfl (QO.build ty23 pl23 (by rfl)) ?_
    first | (refine RS.q rfl (QO.seql4 eqt23 (by rfl) (by rfl)) ?_) | (refine RS.q rfl (QO.seql eqt23 (by decide) (by rfl) (by rfl) (by rfl) (by rfl)) ?_)
    refine RS.q rfl (QO.move) ?_
    refine RS.on (dj := 18) rfl (congrArg Value.bool rfl) ?_
    refine RS.q rfl (QO.fieldAddr fo26_1 (by rfl)) ?_
    refine RS.on (dj := 18) rfl (congrArg Value.bool rfl) ?_
    first | (refine RS.q rfl (QO.load ty24 (by rfl) (by repeat (first | exact List.Mem.head _ | refine List.Mem.tail _ ?_)) (by rfl)) ?_) | (refine RS.q rfl (QO.loadO ty24 (by rfl) (by assumption)) ?_) | (refine RS.q rfl (QO.load ty24 (by rfl) (by repeat (first | exact List.Mem.head _ | refine List.Mem.tail _ ?_)) (by assumption)) ?_)
    refine RS.on (dj := 18) rfl (congrArg Value.bool rfl) ?_
    refine RS.q rfl (QO.lenS Try.underlying24 (by rfl)) ?_
    refine RS.on (dj := 18) rfl (congrArg Value.bool rfl) ?_
    refine RS.q rfl (QO.eql (by rfl) (by rfl)) ?_
    refine RS.q rfl (QO.pickT (by rfl) rfl (by rfl)) ?_
    refine RS.q rfl (QO.assign) ?_
    refine RS.nil ?_
    refine thenC_n ?_
    refine CS.ret ?_
    refine thenC_r ?_
    refine retQ.mk (H' := []) (.inr rfl) (RVs.tmp (by rfl) RVs.nil) (List.nil_sublist _) ?_
    exact ⟨rfl, rfl⟩
  · have hb0p := of_bne_false hb0
    refine CS.skip ?_
    refine thenC_n ?_
    refine CS.seq ?_
    refine CS.region ?_
    obtain ⟨_, rfl, rfl, rfl, rfl, rfl, hmx, hfs⟩ := h1.resolve_left (fun hh => hh.1 (of_bne_false hb0))
    obtain ⟨_, rfl, rfl, rfl, rfl, rfl, _, hfs2⟩ := h2.resolve_left (fun hh => hh.1 (of_bne_false hb0))
    first | (refine RS.q rfl (QO.loadB ty26 (by rfl) (by repeat (first | exact List.Mem.head _ | refine List.Mem.tail _ ?_)) (by rfl)) ?_) | (refine RS.q rfl (QO.loadA ty26 (by rfl) (by repeat (first | exact List.Mem.head _ | refine List.Mem.tail _ ?_)) (by rfl) (by rfl)) ?_) | (refine RS.q rfl (QO.loadOA ty26 (by rfl) (by assumption) (by rfl)) ?_)
    first | (refine RS.q rfl (QO.loadB ty26 (by rfl) (by repeat (first | exact List.Mem.head _ | refine List.Mem.tail _ ?_)) (by rfl)) ?_) | (refine RS.q rfl (QO.loadA ty26 (by rfl) (by repeat (first | exact List.Mem.head _ | refine List.Mem.tail _ ?_)) (by rfl) (by rfl)) ?_) | (refine RS.q rfl (QO.loadOA ty26 (by rfl) (by assumption) (by rfl)) ?_)
    refine RS.call rfl (by rfl) ok12 (by rfl) (fun w ho => sameTrue _ _ _ _ _ _ _ _ _ _ vals w rfl rfl (hfs.own ho) (hfs2.own ho) hmx) ?_
    rintro _ _ ⟨rfl, rfl⟩
    refine RS.q rfl (QO.assign) ?_
    refine RS.nil ?_
    refine thenC_n ?_
    refine CS.ret ?_
    refine retQ.mk (H' := []) (.inr rfl) (RVs.tmp (by rfl) RVs.nil) (List.nil_sublist _) ?_
    exact ⟨rfl, rfl⟩

theorem FS.at_ {W : World} {A : Option Addr} {xs : List Nat} (h : FS W A xs) (i : Nat) (hi : i < xs.length) : ∃ b o, A = some ⟨b, o, none⟩ ∧ W.cell? ⟨b, o + i, none⟩ = some (flt (xs.getD i 0)) := by
  obtain ⟨b, o, h1, h2⟩ := h (by omega)
  exact ⟨b, o, h1, h2 _ _ (by rw [List.getElem?_eq_getElem hi, getD_at])⟩

/-- frames must lie alike -/
def plc (r r2 : List Int) : Int := if r = r2 then 0 else 5
def thE (e : Int) (r r2 r3 : List Int) : Int := if e ≠ 0 then e else if r = r2 ∧ r = r3 then 0 else 5
theorem FrR.mk0 {err X Y wi he : Int} {vals : List Nat} {g n : Nat} (hl : vals.length = n) (hn : n ≤ maxLen) (e : err = 0) : FrR err X Y wi he vals (.tuple #[.agg #[iv X, iv Y, iv wi, iv he, .slice (some ⟨g, 0, none⟩) n n], iv 0]) [⟨g, 43, vals.map flt⟩] := by
  subst hl
  exact .inl ⟨e, g, _, [], rfl, by rw [List.append_nil], Nat.le_refl _, hn⟩
theorem FrR.mkE {err X Y wi he k : Int} {vals : List Nat} (e : err = k) (hk : k ≠ 0) : FrR err X Y wi he vals (.tuple #[.agg #[iv 0, iv 0, iv 0, iv 0, .slice none 0 0], iv k]) [] := by
  subst e
  exact .inr ⟨hk, rfl, rfl⟩
def mixV (ys zs : List Nat) (t n : Nat) : List Nat := (List.range n).map fun i => cl (lerpV (ys.getD i 0) (zs.getD i 0) t)
def thrV (ys zs ms : List Nat) (n : Nat) : List Nat := (List.range n).map fun i => cl (lerpV (ys.getD i 0) (zs.getD i 0) (ms.getD (i / 4) 0))

/-- a matte brought to a region -/
def mofF (ms : List Nat) (i : Nat) : Nat := if 0 < ms.length then ms.getD (i % ms.length) 0 else 0
end Go.Proofs.Ytdfbeigjinhgiaa
