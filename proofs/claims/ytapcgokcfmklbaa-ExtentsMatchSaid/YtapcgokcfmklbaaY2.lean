/-
  Part 2 of what the proof leans on (C1, C2, Mut, Ops3, Any2, Stb, Stb2). Conditions: as each theorem says.
-/
import Derived.Test.YtapcgokcfmklbaaY1
import Derived.Test.YtapcgokcfmklbaaRows
namespace Go.Proofs.Ytapcgokcfmklbaa
open Go Go.Proofs Go.RowKit

theorem ty3 : tyChk Try.prog 3 = some ([.int .i64 0], false, 8) := by kernel_rfl
theorem fo23_0 : fldOff Try.prog 23 0 = some (0, 3) := by kernel_rfl
theorem fo23_1 : fldOff Try.prog 23 1 = some (1, 3) := by kernel_rfl
theorem fo23_2 : fldOff Try.prog 23 2 = some (2, 3) := by kernel_rfl
theorem fo23_3 : fldOff Try.prog 23 3 = some (3, 3) := by kernel_rfl
theorem ok43 : callOK Try.prog 43 = true := by kernel_rfl
theorem ok57 : callOK Try.prog 57 = true := by kernel_rfl
theorem ok132 : callOK Try.prog 132 = true := by kernel_rfl
theorem ok131 : callOK Try.prog 131 = true := by kernel_rfl

theorem ext113 (n : Int) (w : World) : (callFunc 113 [Value.int .u32 n].toArray).run Try.prog w = .ok (.value (.float .f32 n.toNat)) w := by kernel_rfl
theorem ext63 (n : Nat) (w : World) : (callFunc 63 [flt n].toArray).run Try.prog w = .ok (.value (.int .u32 n)) w := by kernel_rfl

set_option maxRecDepth 100000 in
theorem clean (v : Nat) (W : World) : Fn_ Try.prog 57 #[flt v] W (fun v_ H => v_ = flt (cl v) ∧ H = []) := by
  refine Fn_.intro Try.func57 rfl rfl (by rfl) ?_
  refine CS.seq ?_
  refine CS.region ?_
  refine RS.q rfl (QO.assign) ?_
  refine RS.nil ?_
  refine thenC_n ?_
  refine CS.seq ?_
  refine CS.seq ?_
  refine CS.region ?_
  refine RS.q rfl (QO.move) ?_
  refine RS.q rfl (QO.move) ?_
  refine RS.q rfl (QO.fcmp32 (by rfl) (by rfl) (by simp)) ?_
  refine RS.nil ?_
  refine thenC_n ?_
  refine CS.cond (by rfl) (fun hb0 => ?_) (fun hb0 => ?_)
  · refine CS.seq ?_
    refine CS.region ?_
    refine RS.q rfl (QO.ext (by rfl) (ext113 _)) ?_
    refine RS.q rfl (QO.assign) ?_
    refine RS.nil ?_
    refine thenC_n ?_
    refine CS.ret ?_
    refine thenC_r ?_
    refine retQ.mk (H' := []) (.inr rfl) (RVs.tmp (by rfl) RVs.nil) (List.nil_sublist _) ?_
    exact ⟨congrArg flt (cl_nan ((fneq_self _).symm.trans hb0)).symm, rfl⟩
  · refine CS.skip ?_
    refine thenC_n ?_
    refine CS.seq ?_
    refine CS.region ?_
    refine RS.q rfl (QO.move) ?_
    refine RS.q rfl (QO.assign) ?_
    refine RS.nil ?_
    refine thenC_n ?_
    refine CS.ret ?_
    refine retQ.mk (H' := []) (.inr rfl) (RVs.tmp (by rfl) RVs.nil) (List.nil_sublist _) ?_
    exact ⟨congrArg flt (cl_num ((fneq_self _).symm.trans hb0)).symm, rfl⟩

set_option maxRecDepth 100000 in
theorem theNaN (W : World) : Fn_ Try.prog 131 #[] W (fun v H => v = flt 2143289344 ∧ H = []) := by
  refine Fn_.intro Try.func131 rfl rfl (by rfl) ?_
  refine CS.seq ?_
  refine CS.region ?_
  refine RS.q rfl (QO.assign) ?_
  refine RS.nil ?_
  refine thenC_n ?_
  refine CS.seq ?_
  refine CS.region ?_
  refine RS.q rfl (QO.ext (by rfl) (ext113 _)) ?_
  refine RS.q rfl (QO.assign) ?_
  refine RS.nil ?_
  refine thenC_n ?_
  refine CS.ret ?_
  refine retQ.mk (H' := []) (.inr rfl) (RVs.tmp (by rfl) RVs.nil) (List.nil_sublist _) ?_
  exact ⟨rfl, rfl⟩

set_option maxRecDepth 100000 in
theorem fix (v : Nat) (W : World) : Fn_ Try.prog 82 #[flt v] W (fun v_ H => v_ = flt (cl v) ∧ H = []) := by
  refine Fn_.intro Try.func82 rfl rfl (by rfl) ?_
  refine CS.seq ?_
  refine CS.region ?_
  refine RS.q rfl (QO.assign) ?_
  refine RS.nil ?_
  refine thenC_n ?_
  refine CS.seq ?_
  refine CS.seq ?_
  refine CS.region ?_
  refine RS.q rfl (QO.move) ?_
  refine RS.q rfl (QO.move) ?_
  refine RS.q rfl (QO.fcmp32 (by rfl) (by rfl) (by simp)) ?_
  refine RS.nil ?_
  refine thenC_n ?_
  refine CS.cond (by rfl) (fun hb0 => ?_) (fun hb0 => ?_)
  · refine CS.seq ?_
    refine CS.region ?_
    refine RS.call rfl (by rfl) ok131 (by rfl) (fun w ho => theNaN _) ?_
    rintro _ _ ⟨rfl, rfl⟩
    refine RS.q rfl (QO.assign) ?_
    refine RS.nil ?_
    refine thenC_n ?_
    refine CS.ret ?_
    refine thenC_r ?_
    refine retQ.mk (H' := []) (.inr rfl) (RVs.tmp (by rfl) RVs.nil) (List.nil_sublist _) ?_
    exact ⟨congrArg flt (cl_nan ((fneq_self _).symm.trans hb0)).symm, rfl⟩
  · refine CS.skip ?_
    refine thenC_n ?_
    refine CS.seq ?_
    refine CS.region ?_
    refine RS.q rfl (QO.move) ?_
    refine RS.q rfl (QO.assign) ?_
    refine RS.nil ?_
    refine thenC_n ?_
    refine CS.ret ?_
    refine retQ.mk (H' := []) (.inr rfl) (RVs.tmp (by rfl) RVs.nil) (List.nil_sublist _) ?_
    exact ⟨congrArg flt (cl_num ((fneq_self _).symm.trans hb0)).symm, rfl⟩

set_option maxRecDepth 100000 in
theorem bits (x : Nat) (W : World) : Fn_ Try.prog 43 #[flt x] W (fun v H => v = .int .u32 (cl x : Nat) ∧ H = []) := by
  refine Fn_.intro Try.func43 rfl rfl (by rfl) ?_
  refine CS.seq ?_
  refine CS.region ?_
  refine RS.q rfl (QO.assign) ?_
  refine RS.nil ?_
  refine thenC_n ?_
  refine CS.seq ?_
  refine CS.region ?_
  refine RS.q rfl (QO.move) ?_
  refine RS.call rfl (by rfl) ok57 (by rfl) (fun w ho => clean _ _) ?_
  rintro _ _ ⟨rfl, rfl⟩
  refine RS.q rfl (QO.ext (by rfl) (ext63 _)) ?_
  refine RS.q rfl (QO.assign) ?_
  refine RS.nil ?_
  refine thenC_n ?_
  refine CS.ret ?_
  refine retQ.mk (H' := []) (.inr rfl) (RVs.tmp (by rfl) RVs.nil) (List.nil_sublist _) ?_
  exact ⟨rfl, rfl⟩

set_option maxRecDepth 100000 in
theorem landed (W : World) : Fn_ Try.prog 9 #[] W (fun v H => v = .bool true ∧ H = []) := by
  refine Fn_.intro Try.func9 rfl rfl (by rfl) ?_
  refine CS.seq ?_
  refine CS.region ?_
  refine RS.q rfl (QO.assign) ?_
  refine RS.nil ?_
  refine thenC_n ?_
  refine CS.seq ?_
  refine CS.region ?_
  refine RS.call rfl (by rfl) ok43 (by rfl) (fun w ho => bits _ _) ?_
  rintro _ _ ⟨rfl, rfl⟩
  refine RS.q rfl (QO.eql (by rfl) (by rfl)) ?_
  refine RS.q rfl (QO.assign) ?_
  refine RS.nil ?_
  refine thenC_n ?_
  refine CS.ret ?_
  refine retQ.mk (H' := []) (.inr rfl) (RVs.tmp (by rfl) RVs.nil) (List.nil_sublist _) ?_
  exact ⟨congrArg Value.bool (by decide), rfl⟩

set_option maxRecDepth 100000 in
theorem exact_ (x y : Nat) (W : World) : Fn_ Try.prog 20 #[flt x, flt y] W (fun v H => v = .bool ((x : Int) == y) ∧ H = []) := by
  refine Fn_.intro Try.func20 rfl rfl (by rfl) ?_
  refine CS.seq ?_
  refine CS.region ?_
  refine RS.q rfl (QO.assign) ?_
  refine RS.nil ?_
  refine thenC_n ?_
  refine CS.seq ?_
  refine CS.region ?_
  refine RS.q rfl (QO.move) ?_
  refine RS.q rfl (QO.ext (by rfl) (ext63 _)) ?_
  refine RS.q rfl (QO.move) ?_
  refine RS.q rfl (QO.ext (by rfl) (ext63 _)) ?_
  refine RS.q rfl (QO.eql (by rfl) (by rfl)) ?_
  refine RS.q rfl (QO.assign) ?_
  refine RS.nil ?_
  refine thenC_n ?_
  refine CS.ret ?_
  refine retQ.mk (H' := []) (.inr rfl) (RVs.tmp (by rfl) RVs.nil) (List.nil_sublist _) ?_
  exact ⟨rfl, rfl⟩

theorem exact_true (x y : Nat) (h : x = y) (W : World) : Fn_ Try.prog 20 #[flt x, flt y] W (fun v H => v = .bool true ∧ H = []) := by
  subst h
  refine (exact_ x x W).mono fun v H h => ?_
  simpa using h
def outR (x s : Int) : Bool := decide (x < -1048576) || decide (1048576 - s < x)
def regErr (x y w h : Int) : Int :=
  if w < 1 ∨ 256 < w ∨ h < 1 ∨ 256 < h then 3 else if 16384 < w * h then 4 else if outR x w = true ∨ outR y h = true then 5 else 0
theorem regErr_ok {x y w h : Int} (e : regErr x y w h = 0) : 1 ≤ w ∧ w ≤ 256 ∧ 1 ≤ h ∧ h ≤ 256 ∧ 1 ≤ w * h ∧ w * h ≤ 16384 ∧ 4 * w * h = 4 * (w * h) ∧ -1048576 ≤ x ∧ x + w ≤ 1048576 ∧ -1048576 ≤ y ∧ y + h ≤ 1048576 := by
  unfold regErr at e
  split at e
  · cases e
  · split at e
    · cases e
    · split at e
      · cases e
      · rename_i h1 h2 h3
        have h4 : 1 * 1 ≤ w * h := Int.mul_le_mul (by omega) (by omega) (by omega) (by omega)
        have h5 : 4 * w * h = 4 * (w * h) := Int.mul_assoc ..
        simp only [outR, not_or, Bool.or_eq_true, decide_eq_true_eq] at h3
        omega
theorem mul_small {w h : Int} (h1 : ¬ w < 1) (h2 : ¬ 256 < w) (h3 : ¬ h < 1) (h4 : ¬ 256 < h) : 1 ≤ w * h ∧ w * h ≤ 65536 := by
  have h5 : 1 * 1 ≤ w * h := Int.mul_le_mul (by omega) (by omega) (by omega) (by omega)
  have h6 : w * h ≤ 256 * 256 := Int.mul_le_mul (by omega) (by omega) (by omega) (by omega)
  omega

set_option maxRecDepth 100000 in
theorem out1 (x s : Int) (W : World) (h : 0 ≤ s) (h2 : s ≤ 256) : Fn_ Try.prog 132 #[iv x, iv s] W (fun v H => v = .bool (outR x s) ∧ H = []) := by
  refine Fn_.intro Try.func132 rfl rfl (by rfl) ?_
  refine CS.seq ?_
  refine CS.region ?_
  refine RS.q rfl (QO.assign) ?_
  refine RS.nil ?_
  refine thenC_n ?_
  refine CS.seq ?_
  refine CS.region ?_
  refine RS.q rfl (QO.move) ?_
  refine RS.q rfl (QO.lss (by rfl) (by rfl)) ?_
  refine RS.q rfl (QO.move) ?_
  refine RS.split (dj := 7) (by rfl) (fun hb0 => ?_) (fun hb0 => ?_)
  · have hb0p := of_decide_eq_true hb0
    refine RS.off (dj := 7) rfl (.inl (congrArg Value.bool hb0)) (fun _ => rfl) rfl ?_
    refine RS.off (dj := 7) rfl (.inl (congrArg Value.bool hb0)) (fun _ => rfl) rfl ?_
    refine RS.off (dj := 7) rfl (.inl (congrArg Value.bool hb0)) (fun _ => rfl) rfl ?_
    refine RS.off (dj := 7) rfl (.inl (congrArg Value.bool hb0)) (fun _ => rfl) rfl ?_
    refine RS.q rfl (QO.pickT (by rfl) hb0 (by rfl)) ?_
    refine RS.q rfl (QO.assign) ?_
    refine RS.nil ?_
    refine thenC_n ?_
    refine CS.ret ?_
    refine retQ.mk (H' := []) (.inr rfl) (RVs.tmp (by rfl) RVs.nil) (List.nil_sublist _) ?_
    exact ⟨congrArg Value.bool (by first | (simp [outR]; done) | (simp [outR]; omega)), rfl⟩
  · have hb0p := of_decide_eq_false hb0
    refine RS.on (dj := 7) rfl (congrArg Value.bool hb0) ?_
    refine RS.q rfl (QO.move) ?_
    refine RS.on (dj := 7) rfl (congrArg Value.bool hb0) ?_
    refine RS.q rfl (QO.move) ?_
    refine RS.on (dj := 7) rfl (congrArg Value.bool hb0) ?_
    first | (refine RS.q rfl (QO.sub (by rfl) (by rfl) (by omega) (by omega)) ?_) | (refine RS.q rfl (QO.ibin (by rfl) (by rfl) trivial) ?_)
    refine RS.on (dj := 7) rfl (congrArg Value.bool hb0) ?_
    refine RS.q rfl (QO.gtr (by rfl) (by rfl)) ?_
    refine RS.q rfl (QO.pickF (by rfl) hb0 (by rfl)) ?_
    refine RS.q rfl (QO.assign) ?_
    refine RS.nil ?_
    refine thenC_n ?_
    refine CS.ret ?_
    refine retQ.mk (H' := []) (.inr rfl) (RVs.tmp (by rfl) RVs.nil) (List.nil_sublist _) ?_
    exact ⟨congrArg Value.bool (by first | (simp [outR]; done) | (simp [outR]; omega)), rfl⟩

set_option maxRecDepth 100000 in
theorem checkRegion (x y wi he : Int) (W : World) : Fn_ Try.prog 89 #[.agg #[iv x, iv y, iv wi, iv he]] W (fun v H => v = iv (regErr x y wi he) ∧ H = []) := by
  refine Fn_.intro Try.func89 rfl rfl (by rfl) ?_
  refine CS.seq ?_
  refine CS.region ?_
  refine RS.box rfl (by rfl) (by rfl) ?_
  intro g1
  refine RS.q rfl (QO.assign) ?_
  refine RS.nil ?_
  refine thenC_n ?_
  refine CS.seq ?_
  refine CS.region ?_
  refine RS.q rfl (QO.assign) ?_
  refine RS.nil ?_
  refine thenC_n ?_
  refine CS.seq ?_
  refine CS.block ?_
  refine CS.seq ?_
  refine CS.region ?_
  refine RS.q rfl (QO.fieldAddr fo23_2 (by rfl)) ?_
  first | (refine RS.q rfl (QO.load ty3 (by rfl) (by repeat (first | exact List.Mem.head _ | refine List.Mem.tail _ ?_)) (by rfl)) ?_) | (refine RS.q rfl (QO.loadO ty3 (by rfl) (by assumption)) ?_) | (refine RS.q rfl (QO.load ty3 (by rfl) (by repeat (first | exact List.Mem.head _ | refine List.Mem.tail _ ?_)) (by assumption)) ?_)
  refine RS.q rfl (QO.lss (by rfl) (by rfl)) ?_
  refine RS.q rfl (QO.move) ?_
  refine RS.split (dj := 8) (by rfl) (fun hb0 => ?_) (fun hb0 => ?_)
  · have hb0p := of_decide_eq_true hb0
    refine RS.off (dj := 8) rfl (.inl (congrArg Value.bool hb0)) (fun _ => rfl) rfl ?_
    refine RS.off (dj := 8) rfl (.inl (congrArg Value.bool hb0)) (fun _ => rfl) rfl ?_
    refine RS.off (dj := 8) rfl (.inl (congrArg Value.bool hb0)) (fun _ => rfl) rfl ?_
    refine RS.q rfl (QO.pickT (by rfl) hb0 (by rfl)) ?_
    refine RS.q rfl (QO.move) ?_
    refine RS.off (dj := 13) rfl (.inl (congrArg Value.bool rfl)) (fun _ => rfl) rfl ?_
    refine RS.off (dj := 13) rfl (.inl (congrArg Value.bool rfl)) (fun _ => rfl) rfl ?_
    refine RS.off (dj := 13) rfl (.inl (congrArg Value.bool rfl)) (fun _ => rfl) rfl ?_
    refine RS.q rfl (QO.pickT (by rfl) rfl (by rfl)) ?_
    refine RS.q rfl (QO.move) ?_
    refine RS.off (dj := 18) rfl (.inl (congrArg Value.bool rfl)) (fun _ => rfl) rfl ?_
    refine RS.off (dj := 18) rfl (.inl (congrArg Value.bool rfl)) (fun _ => rfl) rfl ?_
    refine RS.off (dj := 18) rfl (.inl (congrArg Value.bool rfl)) (fun _ => rfl) rfl ?_
    refine RS.q rfl (QO.pickT (by rfl) rfl (by rfl)) ?_
    refine RS.q rfl (QO.assign) ?_
    refine RS.nil ?_
    refine thenC_n ?_
    refine CS.condT (by rfl) rfl ?_
    refine CS.seq ?_
    refine CS.region ?_
    refine RS.q rfl (QO.assign) ?_
    refine RS.nil ?_
    refine thenC_n ?_
    refine CS.ret ?_
    refine blockC_r ?_
    refine thenC_r ?_
    refine retQ.mk (H' := []) (.inr rfl) (RVs.tmp (by rfl) RVs.nil) (List.nil_sublist _) ?_
    exact ⟨congrArg iv (by first | (unfold regErr; simp only [*]; done) | (unfold regErr; simp [*]; done) | (unfold regErr; simp [*]; omega)), rfl⟩
  · have hb0p := of_decide_eq_false hb0
    refine RS.on (dj := 8) rfl (congrArg Value.bool hb0) ?_
    refine RS.q rfl (QO.fieldAddr fo23_2 (by rfl)) ?_
    refine RS.on (dj := 8) rfl (congrArg Value.bool hb0) ?_
    first | (refine RS.q rfl (QO.load ty3 (by rfl) (by repeat (first | exact List.Mem.head _ | refine List.Mem.tail _ ?_)) (by rfl)) ?_) | (refine RS.q rfl (QO.loadO ty3 (by rfl) (by assumption)) ?_) | (refine RS.q rfl (QO.load ty3 (by rfl) (by repeat (first | exact List.Mem.head _ | refine List.Mem.tail _ ?_)) (by assumption)) ?_)
    refine RS.on (dj := 8) rfl (congrArg Value.bool hb0) ?_
    refine RS.q rfl (QO.gtr (by rfl) (by rfl)) ?_
    refine RS.q rfl (QO.pickF (by rfl) hb0 (by rfl)) ?_
    refine RS.q rfl (QO.move) ?_
    refine RS.split (dj := 13) (by rfl) (fun hb1 => ?_) (fun hb1 => ?_)
    · have hb1p := of_decide_eq_true hb1
      refine RS.off (dj := 13) rfl (.inl (congrArg Value.bool hb1)) (fun _ => rfl) rfl ?_
      refine RS.off (dj := 13) rfl (.inl (congrArg Value.bool hb1)) (fun _ => rfl) rfl ?_
      refine RS.off (dj := 13) rfl (.inl (congrArg Value.bool hb1)) (fun _ => rfl) rfl ?_
      refine RS.q rfl (QO.pickT (by rfl) hb1 (by rfl)) ?_
      refine RS.q rfl (QO.move) ?_
      refine RS.off (dj := 18) rfl (.inl (congrArg Value.bool rfl)) (fun _ => rfl) rfl ?_
      refine RS.off (dj := 18) rfl (.inl (congrArg Value.bool rfl)) (fun _ => rfl) rfl ?_
      refine RS.off (dj := 18) rfl (.inl (congrArg Value.bool rfl)) (fun _ => rfl) rfl ?_
      refine RS.q rfl (QO.pickT (by rfl) rfl (by rfl)) ?_
      refine RS.q rfl (QO.assign) ?_
      refine RS.nil ?_
      refine thenC_n ?_
      refine CS.condT (by rfl) rfl ?_
      refine CS.seq ?_
      refine CS.region ?_
      refine RS.q rfl (QO.assign) ?_
      refine RS.nil ?_
      refine thenC_n ?_
      refine CS.ret ?_
      refine blockC_r ?_
      refine thenC_r ?_
      refine retQ.mk (H' := []) (.inr rfl) (RVs.tmp (by rfl) RVs.nil) (List.nil_sublist _) ?_
      exact ⟨congrArg iv (by first | (unfold regErr; simp only [*]; done) | (unfold regErr; simp [*]; done) | (unfold regErr; simp [*]; omega)), rfl⟩
    · have hb1p := of_decide_eq_false hb1
      refine RS.on (dj := 13) rfl (congrArg Value.bool hb1) ?_
      refine RS.q rfl (QO.fieldAddr fo23_3 (by rfl)) ?_
      refine RS.on (dj := 13) rfl (congrArg Value.bool hb1) ?_
      first | (refine RS.q rfl (QO.load ty3 (by rfl) (by repeat (first | exact List.Mem.head _ | refine List.Mem.tail _ ?_)) (by rfl)) ?_) | (refine RS.q rfl (QO.loadO ty3 (by rfl) (by assumption)) ?_) | (refine RS.q rfl (QO.load ty3 (by rfl) (by repeat (first | exact List.Mem.head _ | refine List.Mem.tail _ ?_)) (by assumption)) ?_)
      refine RS.on (dj := 13) rfl (congrArg Value.bool hb1) ?_
      refine RS.q rfl (QO.lss (by rfl) (by rfl)) ?_
      refine RS.q rfl (QO.pickF (by rfl) hb1 (by rfl)) ?_
      refine RS.q rfl (QO.move) ?_
      refine RS.split (dj := 18) (by rfl) (fun hb2 => ?_) (fun hb2 => ?_)
      · have hb2p := of_decide_eq_true hb2
        refine RS.off (dj := 18) rfl (.inl (congrArg Value.bool hb2)) (fun _ => rfl) rfl ?_
        refine RS.off (dj := 18) rfl (.inl (congrArg Value.bool hb2)) (fun _ => rfl) rfl ?_
        refine RS.off (dj := 18) rfl (.inl (congrArg Value.bool hb2)) (fun _ => rfl) rfl ?_
        refine RS.q rfl (QO.pickT (by rfl) hb2 (by rfl)) ?_
        refine RS.q rfl (QO.assign) ?_
        refine RS.nil ?_
        refine thenC_n ?_
        refine CS.condT (by rfl) rfl ?_
        refine CS.seq ?_
        refine CS.region ?_
        refine RS.q rfl (QO.assign) ?_
        refine RS.nil ?_
        refine thenC_n ?_
        refine CS.ret ?_
        refine blockC_r ?_
        refine thenC_r ?_
        refine retQ.mk (H' := []) (.inr rfl) (RVs.tmp (by rfl) RVs.nil) (List.nil_sublist _) ?_
        exact ⟨congrArg iv (by first | (unfold regErr; simp only [*]; done) | (unfold regErr; simp [*]; done) | (unfold regErr; simp [*]; omega)), rfl⟩
      · have hb2p := of_decide_eq_false hb2
        refine RS.on (dj := 18) rfl (congrArg Value.bool hb2) ?_
        refine RS.q rfl (QO.fieldAddr fo23_3 (by rfl)) ?_
        refine RS.on (dj := 18) rfl (congrArg Value.bool hb2) ?_
        first | (refine RS.q rfl (QO.load ty3 (by rfl) (by repeat (first | exact List.Mem.head _ | refine List.Mem.tail _ ?_)) (by rfl)) ?_) | (refine RS.q rfl (QO.loadO ty3 (by rfl) (by assumption)) ?_) | (refine RS.q rfl (QO.load ty3 (by rfl) (by repeat (first | exact List.Mem.head _ | refine List.Mem.tail _ ?_)) (by assumption)) ?_)
        refine RS.on (dj := 18) rfl (congrArg Value.bool hb2) ?_
        refine RS.q rfl (QO.gtr (by rfl) (by rfl)) ?_
        refine RS.q rfl (QO.pickF (by rfl) hb2 (by rfl)) ?_
        refine RS.q rfl (QO.assign) ?_
        refine RS.nil ?_
        refine thenC_n ?_
        refine CS.cond (by rfl) (fun hb3 => ?_) (fun hb3 => ?_)
        · have hb3p := of_decide_eq_true hb3
          refine CS.seq ?_
          refine CS.region ?_
          refine RS.q rfl (QO.assign) ?_
          refine RS.nil ?_
          refine thenC_n ?_
          refine CS.ret ?_
          refine blockC_r ?_
          refine thenC_r ?_
          refine retQ.mk (H' := []) (.inr rfl) (RVs.tmp (by rfl) RVs.nil) (List.nil_sublist _) ?_
          exact ⟨congrArg iv (by first | (unfold regErr; simp only [*]; done) | (unfold regErr; simp [*]; done) | (unfold regErr; simp [*]; omega)), rfl⟩
        · have hb3p := of_decide_eq_false hb3
          refine CS.seq ?_
          refine CS.region ?_
          have hms := mul_small (w := wi) (h := he) (by omega) (by omega) (by omega) (by omega)
          refine RS.q rfl (QO.fieldAddr fo23_2 (by rfl)) ?_
          first | (refine RS.q rfl (QO.load ty3 (by rfl) (by repeat (first | exact List.Mem.head _ | refine List.Mem.tail _ ?_)) (by rfl)) ?_) | (refine RS.q rfl (QO.loadO ty3 (by rfl) (by assumption)) ?_) | (refine RS.q rfl (QO.load ty3 (by rfl) (by repeat (first | exact List.Mem.head _ | refine List.Mem.tail _ ?_)) (by assumption)) ?_)
          refine RS.q rfl (QO.fieldAddr fo23_3 (by rfl)) ?_
          first | (refine RS.q rfl (QO.load ty3 (by rfl) (by repeat (first | exact List.Mem.head _ | refine List.Mem.tail _ ?_)) (by rfl)) ?_) | (refine RS.q rfl (QO.loadO ty3 (by rfl) (by assumption)) ?_) | (refine RS.q rfl (QO.load ty3 (by rfl) (by repeat (first | exact List.Mem.head _ | refine List.Mem.tail _ ?_)) (by assumption)) ?_)
          first | (refine RS.q rfl (QO.mul (by rfl) (by rfl) (by omega) (by omega)) ?_) | (refine RS.q rfl (QO.ibin (by rfl) (by rfl) trivial) ?_)
          refine RS.q rfl (QO.gtr (by rfl) (by rfl)) ?_
          refine RS.q rfl (QO.assign) ?_
          refine RS.nil ?_
          refine thenC_n ?_
          refine CS.cond (by rfl) (fun hb4 => ?_) (fun hb4 => ?_)
          · have hb4p := of_decide_eq_true hb4
            refine CS.seq ?_
            refine CS.region ?_
            refine RS.q rfl (QO.assign) ?_
            refine RS.nil ?_
            refine thenC_n ?_
            refine CS.ret ?_
            refine blockC_r ?_
            refine thenC_r ?_
            refine retQ.mk (H' := []) (.inr rfl) (RVs.tmp (by rfl) RVs.nil) (List.nil_sublist _) ?_
            exact ⟨congrArg iv (by first | (unfold regErr; simp only [*]; done) | (unfold regErr; simp [*]; done) | (unfold regErr; simp [*]; omega)), rfl⟩
          · have hb4p := of_decide_eq_false hb4
            refine CS.seq ?_
            refine CS.region ?_
            refine RS.q rfl (QO.move) ?_
            refine RS.q rfl (QO.fieldAddr fo23_0 (by rfl)) ?_
            first | (refine RS.q rfl (QO.load ty3 (by rfl) (by repeat (first | exact List.Mem.head _ | refine List.Mem.tail _ ?_)) (by rfl)) ?_) | (refine RS.q rfl (QO.loadO ty3 (by rfl) (by assumption)) ?_) | (refine RS.q rfl (QO.load ty3 (by rfl) (by repeat (first | exact List.Mem.head _ | refine List.Mem.tail _ ?_)) (by assumption)) ?_)
            refine RS.q rfl (QO.fieldAddr fo23_2 (by rfl)) ?_
            first | (refine RS.q rfl (QO.load ty3 (by rfl) (by repeat (first | exact List.Mem.head _ | refine List.Mem.tail _ ?_)) (by rfl)) ?_) | (refine RS.q rfl (QO.loadO ty3 (by rfl) (by assumption)) ?_) | (refine RS.q rfl (QO.load ty3 (by rfl) (by repeat (first | exact List.Mem.head _ | refine List.Mem.tail _ ?_)) (by assumption)) ?_)
            refine RS.call rfl (by rfl) ok132 (by rfl) (fun w ho => out1 _ _ _ (by omega) (by omega)) ?_
            rintro _ _ ⟨rfl, rfl⟩
            refine RS.q rfl (QO.move) ?_
            refine RS.split (dj := 37) (by rfl) (fun hb5 => ?_) (fun hb5 => ?_)
            · refine RS.off (dj := 37) rfl (.inl (congrArg Value.bool hb5)) (fun _ => rfl) rfl ?_
              refine RS.off (dj := 37) rfl (.inl (congrArg Value.bool hb5)) (fun _ => rfl) rfl ?_
              refine RS.off (dj := 37) rfl (.inl (congrArg Value.bool hb5)) (fun _ => rfl) rfl ?_
              refine RS.off (dj := 37) rfl (.inl (congrArg Value.bool hb5)) (fun _ => rfl) rfl ?_
              refine RS.off (dj := 37) rfl (.inl (congrArg Value.bool hb5)) (fun _ => rfl) rfl ?_
              refine RS.off (dj := 37) rfl (.inl (congrArg Value.bool hb5)) (fun _ => rfl) rfl ?_
              refine RS.q rfl (QO.pickT (by rfl) hb5 (by rfl)) ?_
              refine RS.q rfl (QO.assign) ?_
              refine RS.nil ?_
              refine thenC_n ?_
              refine CS.condT (by rfl) rfl ?_
              refine CS.seq ?_
              refine CS.region ?_
              refine RS.q rfl (QO.assign) ?_
              refine RS.nil ?_
              refine thenC_n ?_
              refine CS.ret ?_
              refine blockC_r ?_
              refine thenC_r ?_
              refine retQ.mk (H' := []) (.inr rfl) (RVs.tmp (by rfl) RVs.nil) (List.nil_sublist _) ?_
              exact ⟨congrArg iv (by first | (unfold regErr; simp only [*]; done) | (unfold regErr; simp [*]; done) | (unfold regErr; simp [*]; omega)), rfl⟩
            · refine RS.on (dj := 37) rfl (congrArg Value.bool hb5) ?_
              refine RS.q rfl (QO.move) ?_
              refine RS.on (dj := 37) rfl (congrArg Value.bool hb5) ?_
              refine RS.q rfl (QO.fieldAddr fo23_1 (by rfl)) ?_
              refine RS.on (dj := 37) rfl (congrArg Value.bool hb5) ?_
              first | (refine RS.q rfl (QO.load ty3 (by rfl) (by repeat (first | exact List.Mem.head _ | refine List.Mem.tail _ ?_)) (by rfl)) ?_) | (refine RS.q rfl (QO.loadO ty3 (by rfl) (by assumption)) ?_) | (refine RS.q rfl (QO.load ty3 (by rfl) (by repeat (first | exact List.Mem.head _ | refine List.Mem.tail _ ?_)) (by assumption)) ?_)
              refine RS.on (dj := 37) rfl (congrArg Value.bool hb5) ?_
              refine RS.q rfl (QO.fieldAddr fo23_3 (by rfl)) ?_
              refine RS.on (dj := 37) rfl (congrArg Value.bool hb5) ?_
              first | (refine RS.q rfl (QO.load ty3 (by rfl) (by repeat (first | exact List.Mem.head _ | refine List.Mem.tail _ ?_)) (by rfl)) ?_) | (refine RS.q rfl (QO.loadO ty3 (by rfl) (by assumption)) ?_) | (refine RS.q rfl (QO.load ty3 (by rfl) (by repeat (first | exact List.Mem.head _ | refine List.Mem.tail _ ?_)) (by assumption)) ?_)
              refine RS.on (dj := 37) rfl (congrArg Value.bool hb5) ?_
              refine RS.call rfl (by rfl) ok132 (by rfl) (fun w ho => out1 _ _ _ (by omega) (by omega)) ?_
              rintro _ _ ⟨rfl, rfl⟩
              refine RS.q rfl (QO.pickF (by rfl) hb5 (by rfl)) ?_
              refine RS.q rfl (QO.assign) ?_
              refine RS.nil ?_
              refine thenC_n ?_
              refine CS.cond (by rfl) (fun hb6 => ?_) (fun hb6 => ?_)
              · refine CS.seq ?_
                refine CS.region ?_
                refine RS.q rfl (QO.assign) ?_
                refine RS.nil ?_
                refine thenC_n ?_
                refine CS.ret ?_
                refine blockC_r ?_
                refine thenC_r ?_
                refine retQ.mk (H' := []) (.inr rfl) (RVs.tmp (by rfl) RVs.nil) (List.nil_sublist _) ?_
                exact ⟨congrArg iv (by first | (unfold regErr; simp only [*]; done) | (unfold regErr; simp [*]; done) | (unfold regErr; simp [*]; omega)), rfl⟩
              · refine CS.skip ?_
                refine blockC_n ?_
                refine thenC_n ?_
                refine CS.seq ?_
                refine CS.region ?_
                refine RS.q rfl (QO.assign) ?_
                refine RS.nil ?_
                refine thenC_n ?_
                refine CS.ret ?_
                refine retQ.mk (H' := []) (.inr rfl) (RVs.tmp (by rfl) RVs.nil) (List.nil_sublist _) ?_
                exact ⟨congrArg iv (by first | (unfold regErr; simp only [*]; done) | (unfold regErr; simp [*]; done) | (unfold regErr; simp [*]; omega)), rfl⟩

def inB (n l h : Int) : Bool := decide (l ≤ n) && decide (n ≤ h)
end Go.Proofs.Ytapcgokcfmklbaa

namespace Go.Proofs.Ytapcgokcfmklbaa
open Go Go.Proofs Go.RowKit

theorem ty23 : tyChk Try.prog 23 = some ([.int .i64 0, .int .i64 0, .int .i64 0, .int .i64 0], true, 32) := by kernel_rfl
theorem ty24 : tyChk Try.prog 24 = some ([.slice none 0 0], false, 24) := by kernel_rfl
theorem ty26 : tyChk Try.prog 26 = some ([.int .i64 0, .int .i64 0, .int .i64 0, .int .i64 0, .slice none 0 0], true, 56) := by kernel_rfl
theorem ty29 : tyChk Try.prog 29 = some ([.float .f32 0], false, 4) := by kernel_rfl
theorem ty172 : tyChk Try.prog 172 = some ([.float .f32 0, .float .f32 0, .float .f32 0, .float .f32 0], true, 16) := by kernel_rfl
theorem ty118 : tyChk Try.prog 118 = some ([.nilFunc], false, 8) := by kernel_rfl
theorem fo26_0 : fldOff Try.prog 26 0 = some (0, 23) := by kernel_rfl
theorem fo26_1 : fldOff Try.prog 26 1 = some (4, 24) := by kernel_rfl
theorem ok9 : callOK Try.prog 9 = true := by kernel_rfl
theorem ok10 : callOK Try.prog 10 = true := by kernel_rfl
theorem ok20 : callOK Try.prog 20 = true := by kernel_rfl
theorem ok108 : callOK Try.prog 108 = true := by kernel_rfl
theorem ok115 : callOK Try.prog 115 = true := by kernel_rfl
theorem ok89 : callOK Try.prog 89 = true := by kernel_rfl
theorem ok82 : callOK Try.prog 82 = true := by kernel_rfl
theorem ok104 : callOK Try.prog 104 = true := by kernel_rfl
theorem ok120 : callOK Try.prog 120 = true := by kernel_rfl
theorem ok58 : callOK Try.prog 58 = true := by kernel_rfl
theorem ok146 : callOK Try.prog 146 = true := by kernel_rfl

set_option maxRecDepth 100000 in
theorem fit (x y wi he : Int) (A : Option Addr) (n c : Nat) (xs : List Nat) (W : World) (hn : xs.length = n) (hA : FS W A xs) (hlx : n ≤ maxLen) : Fn_ Try.prog 10 #[.agg #[iv x, iv y, iv wi, iv he, .slice A n c]] W (fun v H => ∃ g, v = .agg #[iv (clamp x), iv (clamp y), iv (1 + and7 wi), iv (1 + and7 he), .slice (some ⟨g, 0, none⟩) (fitN wi he) (fitN wi he)] ∧ H = [⟨g, 29, (fitV xs wi he).map flt⟩]) := by
  subst hn
  have ha1 := and7_bd wi
  have ha2 := and7_bd he
  have ha3 := mul_bd (a := 4 * (1 + and7 wi)) (b := 1 + and7 he) (by omega) (by omega) (by omega) (by omega)
  have hN : ((fitN wi he : Nat) : Int) = 4 * (1 + and7 wi) * (1 + and7 he) := by unfold fitN; omega
  unfold maxLen at hlx
  refine Fn_.intro Try.func10 rfl rfl (by rfl) ?_
  refine CS.seq ?_
  refine CS.region ?_
  refine RS.box rfl (by rfl) (by rfl) ?_
  intro g1
  refine RS.alloc rfl ty26 ?_
  intro g2
  refine RS.nil ?_
  refine thenC_n ?_
  refine CS.seq ?_
  refine CS.region ?_
  refine RS.q rfl (QO.fieldAddr fo26_0 (by rfl)) ?_
  refine RS.q rfl (QO.fieldAddr fo23_2 (by rfl)) ?_
  first | (refine RS.q rfl (QO.load ty3 (by rfl) (by repeat (first | exact List.Mem.head _ | refine List.Mem.tail _ ?_)) (by rfl)) ?_) | (refine RS.q rfl (QO.loadO ty3 (by rfl) (by assumption)) ?_) | (refine RS.q rfl (QO.load ty3 (by rfl) (by repeat (first | exact List.Mem.head _ | refine List.Mem.tail _ ?_)) (by assumption)) ?_)
  refine RS.q rfl (QO.and7 (by rfl) (by rfl)) ?_
  first | (refine RS.q rfl (QO.add (by rfl) (by rfl) (by omega) (by omega)) ?_) | (refine RS.q rfl (QO.ibin (by rfl) (by rfl) trivial) ?_)
  refine RS.q rfl (QO.fieldAddr fo26_0 (by rfl)) ?_
  refine RS.q rfl (QO.fieldAddr fo23_3 (by rfl)) ?_
  first | (refine RS.q rfl (QO.load ty3 (by rfl) (by repeat (first | exact List.Mem.head _ | refine List.Mem.tail _ ?_)) (by rfl)) ?_) | (refine RS.q rfl (QO.loadO ty3 (by rfl) (by assumption)) ?_) | (refine RS.q rfl (QO.load ty3 (by rfl) (by repeat (first | exact List.Mem.head _ | refine List.Mem.tail _ ?_)) (by assumption)) ?_)
  refine RS.q rfl (QO.and7 (by rfl) (by rfl)) ?_
  first | (refine RS.q rfl (QO.add (by rfl) (by rfl) (by omega) (by omega)) ?_) | (refine RS.q rfl (QO.ibin (by rfl) (by rfl) trivial) ?_)
  refine RS.q rfl (QO.fieldAddr fo26_0 (by rfl)) ?_
  refine RS.q rfl (QO.fieldAddr fo23_2 (by rfl)) ?_
  refine RS.store1 ty3 rfl (by rfl) (by rfl) (by rfl) (by repeat (first | exact Upd.head | apply Upd.tail)) (by first | (simp; done) | (simp; omega) | omega) ?_
  refine RS.q rfl (QO.fieldAddr fo26_0 (by rfl)) ?_
  refine RS.q rfl (QO.fieldAddr fo23_3 (by rfl)) ?_
  refine RS.store1 ty3 rfl (by rfl) (by rfl) (by rfl) (by repeat (first | exact Upd.head | apply Upd.tail)) (by first | (simp; done) | (simp; omega) | omega) ?_
  refine RS.nil ?_
  refine thenC_n ?_
  refine CS.seq ?_
  refine CS.region ?_
  refine RS.q rfl (QO.fieldAddr fo26_0 (by rfl)) ?_
  refine RS.q rfl (QO.fieldAddr fo23_0 (by rfl)) ?_
  first | (refine RS.q rfl (QO.load ty3 (by rfl) (by repeat (first | exact List.Mem.head _ | refine List.Mem.tail _ ?_)) (by rfl)) ?_) | (refine RS.q rfl (QO.loadO ty3 (by rfl) (by assumption)) ?_) | (refine RS.q rfl (QO.load ty3 (by rfl) (by repeat (first | exact List.Mem.head _ | refine List.Mem.tail _ ?_)) (by assumption)) ?_)
  refine RS.q rfl (QO.max2 (by rfl) (by rfl)) ?_
  refine RS.q rfl (QO.min2 (by rfl) (by rfl)) ?_
  refine RS.q rfl (QO.fieldAddr fo26_0 (by rfl)) ?_
  refine RS.q rfl (QO.fieldAddr fo23_1 (by rfl)) ?_
  first | (refine RS.q rfl (QO.load ty3 (by rfl) (by repeat (first | exact List.Mem.head _ | refine List.Mem.tail _ ?_)) (by rfl)) ?_) | (refine RS.q rfl (QO.loadO ty3 (by rfl) (by assumption)) ?_) | (refine RS.q rfl (QO.load ty3 (by rfl) (by repeat (first | exact List.Mem.head _ | refine List.Mem.tail _ ?_)) (by assumption)) ?_)
  refine RS.q rfl (QO.max2 (by rfl) (by rfl)) ?_
  refine RS.q rfl (QO.min2 (by rfl) (by rfl)) ?_
  refine RS.q rfl (QO.fieldAddr fo26_0 (by rfl)) ?_
  refine RS.q rfl (QO.fieldAddr fo23_0 (by rfl)) ?_
  refine RS.store1 ty3 rfl (by rfl) (by rfl) (by rfl) (by repeat (first | exact Upd.head | apply Upd.tail)) (by first | (simp; done) | (simp; omega) | omega) ?_
  refine RS.q rfl (QO.fieldAddr fo26_0 (by rfl)) ?_
  refine RS.q rfl (QO.fieldAddr fo23_1 (by rfl)) ?_
  refine RS.store1 ty3 rfl (by rfl) (by rfl) (by rfl) (by repeat (first | exact Upd.head | apply Upd.tail)) (by first | (simp; done) | (simp; omega) | omega) ?_
  refine RS.nil ?_
  refine thenC_n ?_
  refine CS.seq ?_
  refine CS.region ?_
  refine RS.q rfl (QO.fieldAddr fo26_0 (by rfl)) ?_
  refine RS.q rfl (QO.fieldAddr fo23_2 (by rfl)) ?_
  first | (refine RS.q rfl (QO.load ty3 (by rfl) (by repeat (first | exact List.Mem.head _ | refine List.Mem.tail _ ?_)) (by rfl)) ?_) | (refine RS.q rfl (QO.loadO ty3 (by rfl) (by assumption)) ?_) | (refine RS.q rfl (QO.load ty3 (by rfl) (by repeat (first | exact List.Mem.head _ | refine List.Mem.tail _ ?_)) (by assumption)) ?_)
  first | (refine RS.q rfl (QO.mul (by rfl) (by rfl) (by omega) (by omega)) ?_) | (refine RS.q rfl (QO.ibin (by rfl) (by rfl) trivial) ?_)
  refine RS.q rfl (QO.fieldAddr fo26_0 (by rfl)) ?_
  refine RS.q rfl (QO.fieldAddr fo23_3 (by rfl)) ?_
  first | (refine RS.q rfl (QO.load ty3 (by rfl) (by repeat (first | exact List.Mem.head _ | refine List.Mem.tail _ ?_)) (by rfl)) ?_) | (refine RS.q rfl (QO.loadO ty3 (by rfl) (by assumption)) ?_) | (refine RS.q rfl (QO.load ty3 (by rfl) (by repeat (first | exact List.Mem.head _ | refine List.Mem.tail _ ?_)) (by assumption)) ?_)
  first | (refine RS.q rfl (QO.mul (by rfl) (by rfl) (by omega) (by omega)) ?_) | (refine RS.q rfl (QO.ibin (by rfl) (by rfl) trivial) ?_)
  refine RS.make rfl Try.underlying24 ty29 (by rfl) (by rfl) (by omega) (by omega) (by omega) (by omega) ?_
  intro gv
  refine RS.q rfl (QO.assign) ?_
  refine RS.nil ?_
  refine thenC_n ?_
  refine CS.seq ?_
  refine CS.seq ?_
  refine CS.region ?_
  refine RS.q rfl (QO.move) ?_
  refine RS.q rfl (QO.lenS Try.underlying24 (by rfl)) ?_
  refine RS.q rfl (QO.move) ?_
  refine RS.nil ?_
  refine thenC_n ?_
  refine CS.block ?_
  refine CS.loop (X := Nat) (4 :: 44 :: 45 :: 46 :: 47 :: 48 :: 49 :: 50 :: 51 :: 52 :: 53 :: 54 :: 55 :: 56 :: 57 :: 58 :: 59 :: 60 :: 61 :: 62 :: 63 :: []) (fun k => [(44, iv k)]) (fun k => [⟨gv, 29, fitL xs (fitN wi he) k⟩, ⟨g2, 26, [iv 0, iv 0, iv 0, iv 0, .slice none 0 0]⟩, ⟨g1, 26, [iv (clamp x), iv (clamp y), iv (1 + and7 wi), iv (1 + and7 he), .slice A xs.length c]⟩]) (fun k => k ≤ fitN wi he) (fun k => fitN wi he - k) 0 (Nat.zero_le _) ?_ ?_ ?_
  · exact (by repeat (first | exact kn_nil | refine kn_cons (by rfl) ?_))
  · exact (by rw [fitL_zero]; exact (by repeat (first | exact List.Sublist.refl _ | exact List.nil_sublist _ | refine List.Sublist.cons_cons _ ?_ | refine List.Sublist.cons _ ?_ | exact Sbp.refl | exact Sbp.nil | refine Sbp.cons (by repeat (first | exact Rem.head | apply Rem.tail)) ?_ | exact Sbp.app | refine Sbp.skip ?_)))
  · intro k gj5 hz
    refine CS.seq ?_
    refine CS.region ?_
    refine RS.q rfl (QO.lss (by rfl) (by rfl)) ?_
    refine RS.nil ?_
    refine thenC_n ?_
    refine CS.seq ?_
    refine CS.cond (by rfl) (fun hb0 => ?_) (fun hb0 => ?_)
    · have hb0p := of_decide_eq_true hb0
      refine CS.skip ?_
      refine thenC_n ?_
      refine CS.seq ?_
      refine CS.block ?_
      refine CS.seq ?_
      refine CS.region ?_
      refine RS.q rfl (QO.move) ?_
      refine RS.q rfl (QO.assign) ?_
      refine RS.nil ?_
      refine thenC_n ?_
      refine CS.seq ?_
      refine CS.region ?_
      refine RS.q rfl (QO.fieldAddr fo26_1 (by rfl)) ?_
      first | (refine RS.q rfl (QO.load ty24 (by rfl) (by repeat (first | exact List.Mem.head _ | refine List.Mem.tail _ ?_)) (by rfl)) ?_) | (refine RS.q rfl (QO.loadO ty24 (by rfl) (by assumption)) ?_) | (refine RS.q rfl (QO.load ty24 (by rfl) (by repeat (first | exact List.Mem.head _ | refine List.Mem.tail _ ?_)) (by assumption)) ?_)
      refine RS.q rfl (QO.lenS Try.underlying24 (by rfl)) ?_
      refine RS.q rfl (QO.gtr (by rfl) (by rfl)) ?_
      refine RS.nil ?_
      refine thenC_n ?_
      refine CS.cond (by rfl) (fun hb1 => ?_) (fun hb1 => ?_)
      · have hb1p := of_decide_eq_true hb1
        refine CS.draw 12 rfl (by kernel_rfl) (by kernel_rfl) ?_
        obtain ⟨bA, oA, rfl, hcell⟩ := hA (by omega)
        have hlt : k % xs.length < xs.length := Nat.mod_lt _ (by omega)
        refine RT.take (i := 0) rfl (by kernel_rfl) rfl (QO.move) ?_
        refine RT.take (i := 1) rfl (by kernel_rfl) rfl (QO.move) ?_
        refine RT.take (i := 2) rfl (by kernel_rfl) rfl (QO.fieldAddr fo26_1 (by rfl)) ?_
        first | (refine RT.take (i := 3) rfl (by kernel_rfl) rfl (QO.load ty24 (by rfl) (by repeat (first | exact List.Mem.head _ | refine List.Mem.tail _ ?_)) (by rfl)) ?_) | (refine RT.take (i := 3) rfl (by kernel_rfl) rfl (QO.loadO ty24 (by rfl) (by assumption)) ?_) | (refine RT.take (i := 3) rfl (by kernel_rfl) rfl (QO.load ty24 (by rfl) (by repeat (first | exact List.Mem.head _ | refine List.Mem.tail _ ?_)) (by assumption)) ?_)
        refine RT.take (i := 4) rfl (by kernel_rfl) rfl (QO.move) ?_
        refine RT.take (i := 5) rfl (by kernel_rfl) rfl (QO.fieldAddr fo26_1 (by rfl)) ?_
        first | (refine RT.take (i := 6) rfl (by kernel_rfl) rfl (QO.load ty24 (by rfl) (by repeat (first | exact List.Mem.head _ | refine List.Mem.tail _ ?_)) (by rfl)) ?_) | (refine RT.take (i := 6) rfl (by kernel_rfl) rfl (QO.loadO ty24 (by rfl) (by assumption)) ?_) | (refine RT.take (i := 6) rfl (by kernel_rfl) rfl (QO.load ty24 (by rfl) (by repeat (first | exact List.Mem.head _ | refine List.Mem.tail _ ?_)) (by assumption)) ?_)
        refine RT.take (i := 7) rfl (by kernel_rfl) rfl (QO.lenS Try.underlying24 (by rfl)) ?_
        refine RT.takev (i := 8) rfl (by kernel_rfl) rfl (QO.rem (by rfl) (by rfl) (by omega)) (congrArg iv (tmod_cast k xs.length)) ?_
        first | (refine RT.take (i := 9) rfl (by kernel_rfl) rfl (QO.idx0 Try.underlying24 ty29 (by rfl) (by rfl) (by rfl) (by omega)) ?_) | (refine RT.take (i := 9) rfl (by kernel_rfl) rfl (QO.idxn Try.underlying24 ty29 (by rfl) (by rfl) (by rfl) (by omega)) ?_) | (refine RT.take (i := 9) rfl (by kernel_rfl) rfl (QO.idx1 Try.underlying24 ty29 (by rfl) (by rfl) (by omega) (by omega)) ?_)
        refine RT.take (i := 10) rfl (by kernel_rfl) rfl (QO.loadO ty29 (by rfl) (hcell _ _ (List.getElem?_eq_getElem hlt))) ?_
        first | (refine RT.take (i := 11) rfl (by kernel_rfl) rfl (QO.idx0 Try.underlying24 ty29 (by rfl) (by rfl) (by rfl) (by omega)) ?_) | (refine RT.take (i := 11) rfl (by kernel_rfl) rfl (QO.idxn Try.underlying24 ty29 (by rfl) (by rfl) (by rfl) (by omega)) ?_) | (refine RT.take (i := 11) rfl (by kernel_rfl) rfl (QO.idx1 Try.underlying24 ty29 (by rfl) (by rfl) (by omega) (by omega)) ?_)
        refine RT.tail (i := 12) (by kernel_rfl) rfl rfl ?_
        refine RS.store1e ty29 rfl (by rfl) (by rfl) (by rfl) (fitL_set' xs (fitN wi he) k _ (fitv_at _ _ hlt) (by omega)) (by repeat (first | exact Upd.head | apply Upd.tail)) (by rw [fitL_len]; omega) ?_
        refine RS.nil ?_
        refine RT.done (by kernel_rfl) ?_
        refine blockC_n ?_
        refine thenC_n ?_
        refine CS.region ?_
        first | (refine RS.q rfl (QO.add (by rfl) (by rfl) (by omega) (by omega)) ?_) | (refine RS.q rfl (QO.ibin (by rfl) (by rfl) trivial) ?_)
        refine RS.q rfl (QO.move) ?_
        refine RS.nil ?_
        refine loopQ_n (by intro t ht; repeat (first | with_reducible exact rfl | exact frame_puts ht (frame_mix ht) _ rfl | (refine frame_put rfl ht ?_) | (refine frame_puts ht ?_ _ rfl) | exact frame_mix ht | (refine frame_mix2 rfl ht ?_) | exact rfl)) ?_
        exact ⟨k + 1, by omega, by omega, (by repeat (first | exact kn_nil | refine kn_cons (by rfl) ?_)), (by repeat (first | exact List.Sublist.refl _ | exact List.nil_sublist _ | refine List.Sublist.cons_cons _ ?_ | refine List.Sublist.cons _ ?_ | exact Sbp.refl | exact Sbp.nil | refine Sbp.cons (by repeat (first | exact Rem.head | apply Rem.tail)) ?_ | exact Sbp.app | refine Sbp.skip ?_))⟩
      · have hb1p := of_decide_eq_false hb1
        refine CS.skip ?_
        refine blockC_n ?_
        refine thenC_n ?_
        refine CS.region ?_
        first | (refine RS.q rfl (QO.add (by rfl) (by rfl) (by omega) (by omega)) ?_) | (refine RS.q rfl (QO.ibin (by rfl) (by rfl) trivial) ?_)
        refine RS.q rfl (QO.move) ?_
        refine RS.nil ?_
        refine loopQ_n (by intro t ht; repeat (first | with_reducible exact rfl | exact frame_puts ht (frame_mix ht) _ rfl | (refine frame_put rfl ht ?_) | (refine frame_puts ht ?_ _ rfl) | exact frame_mix ht | (refine frame_mix2 rfl ht ?_) | exact rfl)) ?_
        exact ⟨k + 1, by omega, by omega, (by repeat (first | exact kn_nil | refine kn_cons (by rfl) ?_)), (by rw [← fitL_skip _ _ _ (by omega)]; exact (by repeat (first | exact List.Sublist.refl _ | exact List.nil_sublist _ | refine List.Sublist.cons_cons _ ?_ | refine List.Sublist.cons _ ?_ | exact Sbp.refl | exact Sbp.nil | refine Sbp.cons (by repeat (first | exact Rem.head | apply Rem.tail)) ?_ | exact Sbp.app | refine Sbp.skip ?_)))⟩
    · have hb0p := of_decide_eq_false hb0
      refine CS.exit ?_
      refine thenC_x ?_
      refine loopQ_x ?_
      refine blockC_x ?_
      refine thenC_n ?_
      refine CS.seq ?_
      refine CS.region ?_
      refine RS.q rfl (QO.move) ?_
      refine RS.q rfl (QO.fieldAddr fo26_1 (by rfl)) ?_
      refine RS.store1 ty24 rfl (by rfl) (by rfl) (by rfl) (by repeat (first | exact Upd.head | apply Upd.tail)) (by first | (simp; done) | (simp; omega) | omega) ?_
      refine RS.nil ?_
      refine thenC_n ?_
      refine CS.seq ?_
      refine CS.region ?_
      first | (refine RS.q rfl (QO.loadB ty26 (by rfl) (by repeat (first | exact List.Mem.head _ | refine List.Mem.tail _ ?_)) (by rfl)) ?_) | (refine RS.q rfl (QO.loadA ty26 (by rfl) (by repeat (first | exact List.Mem.head _ | refine List.Mem.tail _ ?_)) (by rfl) (by rfl)) ?_) | (refine RS.q rfl (QO.loadOA ty26 (by rfl) (by assumption) (by rfl)) ?_)
      first | refine RS.storeB ty26 (by rfl) (by rfl) (by rfl) (by rfl) (by rfl) (by repeat (first | exact Upd.head | apply Upd.tail)) (by rfl) ?_ | refine RS.storeP ty26 (by rfl) (by rfl) (by rfl) (by rfl) (by rfl) (by repeat (first | exact Upd.head | apply Upd.tail)) (by rfl) ?_
      refine RS.nil ?_
      refine thenC_n ?_
      refine CS.ret ?_
      refine retQ.mk (H' := [⟨gv, 29, (fitV xs wi he).map flt⟩]) (.inr rfl) (RVs.cellA ty26 (by rfl) (by repeat (first | exact List.Mem.head _ | refine List.Mem.tail _ ?_)) (by rfl) RVs.nil) (by obtain rfl : k = fitN wi he := (by omega); rw [fitL_full]; exact (by repeat (first | exact List.Sublist.refl _ | exact List.nil_sublist _ | refine List.Sublist.cons_cons _ ?_ | refine List.Sublist.cons _ ?_ | exact Sbp.refl | exact Sbp.nil | refine Sbp.cons (by repeat (first | exact Rem.head | apply Rem.tail)) ?_ | exact Sbp.app | refine Sbp.skip ?_))) ?_
      exact ⟨gv, rfl, rfl⟩

def frErr (x y w h : Int) (n : Nat) : Int := if regErr x y w h ≠ 0 then regErr x y w h else if (n : Int) ≠ 4 * w * h then 2 else 0
theorem frErr_ok {x y w h : Int} {n : Nat} (e : frErr x y w h n = 0) : regErr x y w h = 0 ∧ (n : Int) = 4 * w * h := by
  unfold frErr at e
  split at e
  · contradiction
  · rename_i h1
    split at e
    · cases e
    · rename_i h2
      exact ⟨Decidable.not_not.1 h1, Decidable.not_not.1 h2⟩

set_option maxRecDepth 100000 in
theorem check (x y wi he : Int) (A : Option Addr) (m c : Nat) (W : World) : Fn_ Try.prog 58 #[.agg #[iv x, iv y, iv wi, iv he, .slice A m c]] W (fun v H => v = iv (frErr x y wi he m) ∧ H = []) := by
  refine Fn_.intro Try.func58 rfl rfl (by rfl) ?_
  refine CS.seq ?_
  refine CS.region ?_
  refine RS.box rfl (by rfl) (by rfl) ?_
  intro g1
  refine RS.q rfl (QO.assign) ?_
  refine RS.nil ?_
  refine thenC_n ?_
  refine CS.seq ?_
  refine CS.seq ?_
  refine CS.region ?_
  refine RS.q rfl (QO.fieldAddr fo26_0 (by rfl)) ?_
  first | (refine RS.q rfl (QO.loadB ty23 (by rfl) (by repeat (first | exact List.Mem.head _ | refine List.Mem.tail _ ?_)) (by rfl)) ?_) | (refine RS.q rfl (QO.loadA ty23 (by rfl) (by repeat (first | exact List.Mem.head _ | refine List.Mem.tail _ ?_)) (by rfl) (by rfl)) ?_) | (refine RS.q rfl (QO.loadOA ty23 (by rfl) (by assumption) (by rfl)) ?_)
  refine RS.call rfl (by rfl) ok89 (by rfl) (fun w ho => checkRegion _ _ _ _ _) ?_
  rintro _ _ ⟨rfl, rfl⟩
  refine RS.q rfl (QO.assign) ?_
  refine RS.nil ?_
  refine thenC_n ?_
  refine CS.seq ?_
  refine CS.region ?_
  refine RS.q rfl (QO.move) ?_
  refine RS.q rfl (QO.neq (by rfl) (by rfl)) ?_
  refine RS.nil ?_
  refine thenC_n ?_
  refine CS.cond (by rfl) (fun hb0 => ?_) (fun hb0 => ?_)
  · have hb0p := bne_iff_ne.1 hb0
    refine CS.seq ?_
    refine CS.region ?_
    refine RS.q rfl (QO.move) ?_
    refine RS.q rfl (QO.assign) ?_
    refine RS.nil ?_
    refine thenC_n ?_
    refine CS.ret ?_
    refine thenC_r ?_
    refine retQ.mk (H' := []) (.inr rfl) (RVs.tmp (by rfl) RVs.nil) (List.nil_sublist _) ?_
    exact ⟨congrArg iv (by unfold frErr; rw [if_pos hb0p]), rfl⟩
  · have hb0p := of_bne_false hb0
    refine CS.skip ?_
    refine thenC_n ?_
    refine CS.seq ?_
    refine CS.seq ?_
    refine CS.region ?_
    have hro := regErr_ok (of_bne_false hb0)
    refine RS.q rfl (QO.fieldAddr fo26_1 (by rfl)) ?_
    first | (refine RS.q rfl (QO.load ty24 (by rfl) (by repeat (first | exact List.Mem.head _ | refine List.Mem.tail _ ?_)) (by rfl)) ?_) | (refine RS.q rfl (QO.loadO ty24 (by rfl) (by assumption)) ?_) | (refine RS.q rfl (QO.load ty24 (by rfl) (by repeat (first | exact List.Mem.head _ | refine List.Mem.tail _ ?_)) (by assumption)) ?_)
    refine RS.q rfl (QO.lenS Try.underlying24 (by rfl)) ?_
    refine RS.q rfl (QO.fieldAddr fo26_0 (by rfl)) ?_
    refine RS.q rfl (QO.fieldAddr fo23_2 (by rfl)) ?_
    first | (refine RS.q rfl (QO.load ty3 (by rfl) (by repeat (first | exact List.Mem.head _ | refine List.Mem.tail _ ?_)) (by rfl)) ?_) | (refine RS.q rfl (QO.loadO ty3 (by rfl) (by assumption)) ?_) | (refine RS.q rfl (QO.load ty3 (by rfl) (by repeat (first | exact List.Mem.head _ | refine List.Mem.tail _ ?_)) (by assumption)) ?_)
    first | (refine RS.q rfl (QO.mul (by rfl) (by rfl) (by omega) (by omega)) ?_) | (refine RS.q rfl (QO.ibin (by rfl) (by rfl) trivial) ?_)
    refine RS.q rfl (QO.fieldAddr fo26_0 (by rfl)) ?_
    refine RS.q rfl (QO.fieldAddr fo23_3 (by rfl)) ?_
    first | (refine RS.q rfl (QO.load ty3 (by rfl) (by repeat (first | exact List.Mem.head _ | refine List.Mem.tail _ ?_)) (by rfl)) ?_) | (refine RS.q rfl (QO.loadO ty3 (by rfl) (by assumption)) ?_) | (refine RS.q rfl (QO.load ty3 (by rfl) (by repeat (first | exact List.Mem.head _ | refine List.Mem.tail _ ?_)) (by assumption)) ?_)
    first | (refine RS.q rfl (QO.mul (by rfl) (by rfl) (by omega) (by omega)) ?_) | (refine RS.q rfl (QO.ibin (by rfl) (by rfl) trivial) ?_)
    refine RS.q rfl (QO.neq (by rfl) (by rfl)) ?_
    refine RS.nil ?_
    refine thenC_n ?_
    refine CS.cond (by rfl) (fun hb1 => ?_) (fun hb1 => ?_)
    · have hb1p := bne_iff_ne.1 hb1
      refine CS.seq ?_
      refine CS.region ?_
      refine RS.q rfl (QO.assign) ?_
      refine RS.nil ?_
      refine thenC_n ?_
      refine CS.ret ?_
      refine thenC_r ?_
      refine retQ.mk (H' := []) (.inr rfl) (RVs.tmp (by rfl) RVs.nil) (List.nil_sublist _) ?_
      exact ⟨congrArg iv (by unfold frErr; rw [if_neg (Decidable.not_not.2 hb0p), if_pos hb1p]), rfl⟩
    · have hb1p := of_bne_false hb1
      refine CS.skip ?_
      refine thenC_n ?_
      refine CS.seq ?_
      refine CS.region ?_
      refine RS.q rfl (QO.assign) ?_
      refine RS.nil ?_
      refine thenC_n ?_
      refine CS.ret ?_
      refine retQ.mk (H' := []) (.inr rfl) (RVs.tmp (by rfl) RVs.nil) (List.nil_sublist _) ?_
      exact ⟨congrArg iv (by unfold frErr; rw [if_neg (Decidable.not_not.2 hb0p), if_neg (Decidable.not_not.2 hb1p)]), rfl⟩

/-- what Plane comes to -/
def PlaneR (x y wi he : Int) (xs : List Nat) (ch : Int) (v : Value) (H : HL) : Prop :=
  (frErr x y wi he xs.length ≠ 0 ∧ v = .tuple #[.slice none 0 0, iv (frErr x y wi he xs.length)] ∧ H = []) ∨
  (frErr x y wi he xs.length = 0 ∧ (ch < 0 ∨ 3 < ch) ∧ v = .tuple #[.slice none 0 0, iv 3] ∧ H = []) ∨
  (frErr x y wi he xs.length = 0 ∧ 0 ≤ ch ∧ ch ≤ 3 ∧ ∃ g, v = .tuple #[.slice (some ⟨g, 0, none⟩) (wi * he).toNat (wi * he).toNat, iv 0] ∧ H = [⟨g, 29, (planeV xs ch (wi * he).toNat).map flt⟩])

set_option maxRecDepth 100000 in
theorem plane (x y wi he : Int) (A : Option Addr) (n c : Nat) (xs : List Nat) (ch : Int) (W : World) (hn : xs.length = n) (hA : FS W A xs) : Fn_ Try.prog 108 #[.agg #[iv x, iv y, iv wi, iv he, .slice A n c], iv ch] W (fun v H => PlaneR x y wi he xs ch v H) := by
  subst hn
  refine Fn_.intro Try.func108 rfl rfl (by rfl) ?_
  refine CS.seq ?_
  refine CS.region ?_
  refine RS.box rfl (by rfl) (by rfl) ?_
  intro g2
  refine RS.q rfl (QO.assign) ?_
  refine RS.q rfl (QO.assign) ?_
  refine RS.nil ?_
  refine thenC_n ?_
  refine CS.seq ?_
  refine CS.seq ?_
  refine CS.region ?_
  first | (refine RS.q rfl (QO.loadB ty26 (by rfl) (by repeat (first | exact List.Mem.head _ | refine List.Mem.tail _ ?_)) (by rfl)) ?_) | (refine RS.q rfl (QO.loadA ty26 (by rfl) (by repeat (first | exact List.Mem.head _ | refine List.Mem.tail _ ?_)) (by rfl) (by rfl)) ?_) | (refine RS.q rfl (QO.loadOA ty26 (by rfl) (by assumption) (by rfl)) ?_)
  refine RS.call rfl (by rfl) ok58 (by rfl) (fun w ho => check _ _ _ _ _ _ _ _) ?_
  rintro _ _ ⟨rfl, rfl⟩
  refine RS.q rfl (QO.assign) ?_
  refine RS.nil ?_
  refine thenC_n ?_
  refine CS.seq ?_
  refine CS.region ?_
  refine RS.q rfl (QO.move) ?_
  refine RS.q rfl (QO.neq (by rfl) (by rfl)) ?_
  refine RS.nil ?_
  refine thenC_n ?_
  refine CS.cond (by rfl) (fun hb0 => ?_) (fun hb0 => ?_)
  · have hb0p := bne_iff_ne.1 hb0
    refine CS.seq ?_
    refine CS.region ?_
    refine RS.q rfl (QO.move) ?_
    refine RS.q rfl (QO.assign) ?_
    refine RS.q rfl (QO.assign) ?_
    refine RS.nil ?_
    refine thenC_n ?_
    refine CS.ret ?_
    refine thenC_r ?_
    refine retQ.mk (H' := []) (.inr rfl) (RVs.tmp (by rfl) (RVs.tmp (by rfl) RVs.nil)) (List.nil_sublist _) ?_
    exact .inl ⟨hb0p, rfl, rfl⟩
  · have hb0p := of_bne_false hb0
    refine CS.skip ?_
    refine thenC_n ?_
    refine CS.seq ?_
    refine CS.seq ?_
    refine CS.region ?_
    refine RS.q rfl (QO.move) ?_
    refine RS.q rfl (QO.lss (by rfl) (by rfl)) ?_
    refine RS.q rfl (QO.move) ?_
    refine RS.split (dj := 16) (by rfl) (fun hb1 => ?_) (fun hb1 => ?_)
    · have hb1p := of_decide_eq_true hb1
      refine RS.off (dj := 16) rfl (.inl (congrArg Value.bool hb1)) (fun _ => rfl) rfl ?_
      refine RS.off (dj := 16) rfl (.inl (congrArg Value.bool hb1)) (fun _ => rfl) rfl ?_
      refine RS.q rfl (QO.pickT (by rfl) hb1 (by rfl)) ?_
      refine RS.nil ?_
      refine thenC_n ?_
      refine CS.condT (by rfl) rfl ?_
      refine CS.seq ?_
      refine CS.region ?_
      refine RS.q rfl (QO.assign) ?_
      refine RS.q rfl (QO.assign) ?_
      refine RS.nil ?_
      refine thenC_n ?_
      refine CS.ret ?_
      refine thenC_r ?_
      refine retQ.mk (H' := []) (.inr rfl) (RVs.tmp (by rfl) (RVs.tmp (by rfl) RVs.nil)) (List.nil_sublist _) ?_
      exact .inr (.inl ⟨of_bne_false hb0, .inl hb1p, rfl, rfl⟩)
    · have hb1p := of_decide_eq_false hb1
      refine RS.on (dj := 16) rfl (congrArg Value.bool hb1) ?_
      refine RS.q rfl (QO.move) ?_
      refine RS.on (dj := 16) rfl (congrArg Value.bool hb1) ?_
      refine RS.q rfl (QO.gtr (by rfl) (by rfl)) ?_
      refine RS.q rfl (QO.pickF (by rfl) hb1 (by rfl)) ?_
      refine RS.nil ?_
      refine thenC_n ?_
      refine CS.cond (by rfl) (fun hb2 => ?_) (fun hb2 => ?_)
      · have hb2p := of_decide_eq_true hb2
        refine CS.seq ?_
        refine CS.region ?_
        refine RS.q rfl (QO.assign) ?_
        refine RS.q rfl (QO.assign) ?_
        refine RS.nil ?_
        refine thenC_n ?_
        refine CS.ret ?_
        refine thenC_r ?_
        refine retQ.mk (H' := []) (.inr rfl) (RVs.tmp (by rfl) (RVs.tmp (by rfl) RVs.nil)) (List.nil_sublist _) ?_
        exact .inr (.inl ⟨of_bne_false hb0, .inr hb2p, rfl, rfl⟩)
      · have hb2p := of_decide_eq_false hb2
        refine CS.skip ?_
        refine thenC_n ?_
        refine CS.seq ?_
        refine CS.region ?_
        obtain ⟨hr0, hn0⟩ := frErr_ok (of_bne_false hb0)
        have hro := regErr_ok hr0
        have hm : (((wi * he).toNat : Nat) : Int) = wi * he := by omega
        refine RS.q rfl (QO.fieldAddr fo26_0 (by rfl)) ?_
        refine RS.q rfl (QO.fieldAddr fo23_2 (by rfl)) ?_
        first | (refine RS.q rfl (QO.load ty3 (by rfl) (by repeat (first | exact List.Mem.head _ | refine List.Mem.tail _ ?_)) (by rfl)) ?_) | (refine RS.q rfl (QO.loadO ty3 (by rfl) (by assumption)) ?_) | (refine RS.q rfl (QO.load ty3 (by rfl) (by repeat (first | exact List.Mem.head _ | refine List.Mem.tail _ ?_)) (by assumption)) ?_)
        refine RS.q rfl (QO.fieldAddr fo26_0 (by rfl)) ?_
        refine RS.q rfl (QO.fieldAddr fo23_3 (by rfl)) ?_
        first | (refine RS.q rfl (QO.load ty3 (by rfl) (by repeat (first | exact List.Mem.head _ | refine List.Mem.tail _ ?_)) (by rfl)) ?_) | (refine RS.q rfl (QO.loadO ty3 (by rfl) (by assumption)) ?_) | (refine RS.q rfl (QO.load ty3 (by rfl) (by repeat (first | exact List.Mem.head _ | refine List.Mem.tail _ ?_)) (by assumption)) ?_)
        first | (refine RS.q rfl (QO.mul (by rfl) (by rfl) (by omega) (by omega)) ?_) | (refine RS.q rfl (QO.ibin (by rfl) (by rfl) trivial) ?_)
        refine RS.make rfl Try.underlying24 ty29 (by rfl) (by rfl) (by omega) (by omega) (by omega) (by omega) ?_
        intro gp
        refine RS.q rfl (QO.assign) ?_
        refine RS.nil ?_
        refine thenC_n ?_
        refine CS.seq ?_
        refine CS.seq ?_
        refine CS.region ?_
        refine RS.q rfl (QO.move) ?_
        refine RS.q rfl (QO.lenS Try.underlying24 (by rfl)) ?_
        refine RS.q rfl (QO.move) ?_
        refine RS.nil ?_
        refine thenC_n ?_
        refine CS.block ?_
        refine CS.loop (X := Nat) (8 :: 30 :: 31 :: 32 :: 33 :: 34 :: 35 :: 36 :: 37 :: 38 :: 39 :: 40 :: 41 :: 42 :: 43 :: 44 :: 45 :: []) (fun k => [(30, iv k)]) (fun k => [⟨gp, 29, partL (planeF xs ch) (wi * he).toNat k⟩, ⟨g2, 26, [iv x, iv y, iv wi, iv he, .slice A xs.length c]⟩]) (fun k => k ≤ (wi * he).toNat) (fun k => (wi * he).toNat - k) 0 (Nat.zero_le _) ?_ ?_ ?_
        · exact (by repeat (first | exact kn_nil | refine kn_cons (by rfl) ?_))
        · exact (by rw [partL_zero]; exact (by repeat (first | exact List.Sublist.refl _ | exact List.nil_sublist _ | refine List.Sublist.cons_cons _ ?_ | refine List.Sublist.cons _ ?_ | exact Sbp.refl | exact Sbp.nil | refine Sbp.cons (by repeat (first | exact Rem.head | apply Rem.tail)) ?_ | exact Sbp.app | refine Sbp.skip ?_)))
        · intro k gj8 hz
          refine CS.seq ?_
          refine CS.region ?_
          refine RS.q rfl (QO.lss (by rfl) (by rfl)) ?_
          refine RS.nil ?_
          refine thenC_n ?_
          refine CS.seq ?_
          refine CS.cond (by rfl) (fun hb3 => ?_) (fun hb3 => ?_)
          · have hb3p := of_decide_eq_true hb3
            refine CS.skip ?_
            refine thenC_n ?_
            refine CS.seq ?_
            refine CS.block ?_
            refine CS.seq ?_
            refine CS.region ?_
            refine RS.q rfl (QO.move) ?_
            refine RS.q rfl (QO.assign) ?_
            refine RS.nil ?_
            refine thenC_n ?_
            refine CS.region ?_
            obtain ⟨bA, oA, rfl, hcell⟩ := hA (by omega)
            have hlt : (4 * (k : Int) + ch).toNat < xs.length := by omega
            refine RS.q rfl (QO.move) ?_
            refine RS.q rfl (QO.move) ?_
            refine RS.q rfl (QO.fieldAddr fo26_1 (by rfl)) ?_
            first | (refine RS.q rfl (QO.load ty24 (by rfl) (by repeat (first | exact List.Mem.head _ | refine List.Mem.tail _ ?_)) (by rfl)) ?_) | (refine RS.q rfl (QO.loadO ty24 (by rfl) (by assumption)) ?_) | (refine RS.q rfl (QO.load ty24 (by rfl) (by repeat (first | exact List.Mem.head _ | refine List.Mem.tail _ ?_)) (by assumption)) ?_)
            refine RS.q rfl (QO.move) ?_
            first | (refine RS.q rfl (QO.mul (by rfl) (by rfl) (by omega) (by omega)) ?_) | (refine RS.q rfl (QO.ibin (by rfl) (by rfl) trivial) ?_)
            refine RS.q rfl (QO.move) ?_
            first | (refine RS.q rfl (QO.add (by rfl) (by rfl) (by omega) (by omega)) ?_) | (refine RS.q rfl (QO.ibin (by rfl) (by rfl) trivial) ?_)
            first | (refine RS.q rfl (QO.idx0 Try.underlying24 ty29 (by rfl) (by rfl) (by rfl) (by omega)) ?_) | (refine RS.q rfl (QO.idxn Try.underlying24 ty29 (by rfl) (by rfl) (by rfl) (by omega)) ?_) | (refine RS.q rfl (QO.idx1 Try.underlying24 ty29 (by rfl) (by rfl) (by omega) (by omega)) ?_)
            refine RS.q rfl (QO.loadO ty29 (by rfl) (hcell _ _ (List.getElem?_eq_getElem hlt))) ?_
            refine RS.call rfl (by rfl) ok57 (by rfl) (fun w ho => clean _ _) ?_
            rintro _ _ ⟨rfl, rfl⟩
            first | (refine RS.q rfl (QO.idx0 Try.underlying24 ty29 (by rfl) (by rfl) (by rfl) (by omega)) ?_) | (refine RS.q rfl (QO.idxn Try.underlying24 ty29 (by rfl) (by rfl) (by rfl) (by omega)) ?_) | (refine RS.q rfl (QO.idx1 Try.underlying24 ty29 (by rfl) (by rfl) (by omega) (by omega)) ?_)
            refine RS.store1e ty29 rfl (by rfl) (by rfl) (by rfl) (partL_set (planeF xs ch) (wi * he).toNat k _ (planeF_at xs ch k hlt) (by omega)) (by repeat (first | exact Upd.head | apply Upd.tail)) (by rw [partL_len]; omega) ?_
            refine RS.nil ?_
            refine blockC_n ?_
            refine thenC_n ?_
            refine CS.region ?_
            first | (refine RS.q rfl (QO.add (by rfl) (by rfl) (by omega) (by omega)) ?_) | (refine RS.q rfl (QO.ibin (by rfl) (by rfl) trivial) ?_)
            refine RS.q rfl (QO.move) ?_
            refine RS.nil ?_
            refine loopQ_n (by intro t ht; repeat (first | with_reducible exact rfl | exact frame_puts ht (frame_mix ht) _ rfl | (refine frame_put rfl ht ?_) | (refine frame_puts ht ?_ _ rfl) | exact frame_mix ht | (refine frame_mix2 rfl ht ?_) | exact rfl)) ?_
            exact ⟨k + 1, by omega, by omega, (by repeat (first | exact kn_nil | refine kn_cons (by rfl) ?_)), (by repeat (first | exact List.Sublist.refl _ | exact List.nil_sublist _ | refine List.Sublist.cons_cons _ ?_ | refine List.Sublist.cons _ ?_ | exact Sbp.refl | exact Sbp.nil | refine Sbp.cons (by repeat (first | exact Rem.head | apply Rem.tail)) ?_ | exact Sbp.app | refine Sbp.skip ?_))⟩
          · have hb3p := of_decide_eq_false hb3
            refine CS.exit ?_
            refine thenC_x ?_
            refine loopQ_x ?_
            refine blockC_x ?_
            refine thenC_n ?_
            refine CS.seq ?_
            refine CS.region ?_
            refine RS.q rfl (QO.move) ?_
            refine RS.q rfl (QO.assign) ?_
            refine RS.q rfl (QO.assign) ?_
            refine RS.nil ?_
            refine thenC_n ?_
            refine CS.ret ?_
            refine retQ.mk (H' := [⟨gp, 29, (planeV xs ch (wi * he).toNat).map flt⟩]) (.inr rfl) (RVs.tmp (by rfl) (RVs.tmp (by rfl) RVs.nil)) (by obtain rfl : k = (wi * he).toNat := (by omega); rw [partL_full]; exact (by repeat (first | exact List.Sublist.refl _ | exact List.nil_sublist _ | refine List.Sublist.cons_cons _ ?_ | refine List.Sublist.cons _ ?_ | exact Sbp.refl | exact Sbp.nil | refine Sbp.cons (by repeat (first | exact Rem.head | apply Rem.tail)) ?_ | exact Sbp.app | refine Sbp.skip ?_))) ?_
            exact .inr (.inr ⟨of_bne_false hb0, by omega, by omega, gp, rfl, rfl⟩)

set_option maxRecDepth 100000 in
theorem sum1 (m : Nat) : ∀ (xs : List Nat) (A : Option Addr) (c b0 : Nat) (W : World), xs.length = m → xs.length ≤ c → c ≤ maxLen → FS W A xs → W.cell? ⟨b0, 0, none⟩ = some (.func (.func 146) #[] #[.pointer (some ⟨b0, 0, none⟩)]) →
    Fn_ Try.prog 146 #[.slice A xs.length c, .pointer (some ⟨b0, 0, none⟩)] W (fun v H => ∃ r, v = flt r ∧ cl r = sum xs ∧ H = []) := by
  induction m using Nat.strongRecOn
  rename_i m ih
  intro xs A c b0 W hm hc hx hA hf
  have hx2 : c ≤ 9223372036854775807 := hx
  refine Fn_.intro Try.func146 rfl rfl (by rfl) ?_
  refine CS.seq ?_
  refine CS.region ?_
  refine RS.q rfl (QO.assign) ?_
  refine RS.nil ?_
  refine thenC_n ?_
  refine CS.seq ?_
  refine CS.seq ?_
  refine CS.region ?_
  refine RS.q rfl (QO.move) ?_
  refine RS.q rfl (QO.lenS Try.underlying24 (by rfl)) ?_
  refine RS.nil ?_
  refine thenC_n ?_
  refine CS.block ?_
  refine CS.seq ?_
  refine CS.region ?_
  refine RS.q rfl (QO.eql (by rfl) (by rfl)) ?_
  refine RS.q rfl (QO.assign) ?_
  refine RS.nil ?_
  refine thenC_n ?_
  refine CS.cond (by rfl) (fun hb0 => ?_) (fun hb0 => ?_)
  · have hb0p := eq_of_beq hb0
    refine CS.seq ?_
    refine CS.region ?_
    refine RS.q rfl (QO.assign) ?_
    refine RS.nil ?_
    refine thenC_n ?_
    refine CS.ret ?_
    refine blockC_r ?_
    refine thenC_r ?_
    refine retQ.mk (H' := []) (.inr rfl) (RVs.tmp (by rfl) RVs.nil) (List.nil_sublist _) ?_
    exact ⟨0, rfl, by obtain rfl : xs = [] := List.eq_nil_of_length_eq_zero (by have := eq_of_beq hb0; omega); rfl, rfl⟩
  · have hb0p := ne_of_beq_false hb0
    refine CS.seq ?_
    refine CS.region ?_
    refine RS.q rfl (QO.eql (by rfl) (by rfl)) ?_
    refine RS.q rfl (QO.assign) ?_
    refine RS.nil ?_
    refine thenC_n ?_
    refine CS.cond (by rfl) (fun hb1 => ?_) (fun hb1 => ?_)
    · have hb1p := eq_of_beq hb1
      refine CS.seq ?_
      refine CS.region ?_
      obtain ⟨x0, rfl⟩ : ∃ x0, xs = [x0] := by
        match xs, eq_of_beq hb1 with
        | [x0], _ => exact ⟨x0, rfl⟩
      obtain ⟨bA, oA, rfl, hcell⟩ := hA (by simp)
      refine RS.q rfl (QO.move) ?_
      first | (refine RS.q rfl (QO.idx0 Try.underlying24 ty29 (by rfl) (by rfl) (by rfl) (by omega)) ?_) | (refine RS.q rfl (QO.idxn Try.underlying24 ty29 (by rfl) (by rfl) (by rfl) (by omega)) ?_) | (refine RS.q rfl (QO.idx1 Try.underlying24 ty29 (by rfl) (by rfl) (by omega) (by omega)) ?_)
      refine RS.q rfl (QO.loadO ty29 (by rfl) (hcell 0 x0 rfl)) ?_
      refine RS.q rfl (QO.assign) ?_
      refine RS.nil ?_
      refine thenC_n ?_
      refine CS.ret ?_
      refine blockC_r ?_
      refine thenC_r ?_
      refine retQ.mk (H' := []) (.inr rfl) (RVs.tmp (by rfl) RVs.nil) (List.nil_sublist _) ?_
      exact ⟨x0, rfl, sum_one x0, rfl⟩
    · have hb1p := ne_of_beq_false hb1
      refine CS.skip ?_
      refine blockC_n ?_
      refine thenC_n ?_
      refine CS.seq ?_
      refine CS.region ?_
      have hln : 2 ≤ xs.length := by have := ne_of_beq_false hb0; have := ne_of_beq_false hb1; omega
      obtain ⟨bA, oA, rfl, hcell⟩ := hA (by omega)
      refine RS.q rfl (QO.move) ?_
      refine RS.q rfl (QO.lenS Try.underlying24 (by rfl)) ?_
      refine RS.qv rfl (QO.quo (by rfl) (by rfl) (by omega) (by omega) (by omega)) (congrArg iv (tdiv2 xs.length)) ?_
      refine RS.q rfl (QO.assign) ?_
      refine RS.nil ?_
      refine thenC_n ?_
      refine CS.seq ?_
      refine CS.draw 12 rfl (by kernel_rfl) (by kernel_rfl) ?_
      first | (refine RT.take (i := 0) rfl (by kernel_rfl) rfl (QO.load ty118 (by rfl) (by repeat (first | exact List.Mem.head _ | refine List.Mem.tail _ ?_)) (by rfl)) ?_) | (refine RT.take (i := 0) rfl (by kernel_rfl) rfl (QO.loadO ty118 (by rfl) (by assumption)) ?_) | (refine RT.take (i := 0) rfl (by kernel_rfl) rfl (QO.load ty118 (by rfl) (by repeat (first | exact List.Mem.head _ | refine List.Mem.tail _ ?_)) (by assumption)) ?_)
      refine RT.take (i := 1) rfl (by kernel_rfl) rfl (QO.move) ?_
      refine RT.take (i := 2) rfl (by kernel_rfl) rfl (QO.move) ?_
      refine RT.takev (i := 3) rfl (by kernel_rfl) rfl (QO.cutHi Try.underlying24 ty29 (by rfl) (by rfl) (by omega) (by omega)) (congrArg (fun q => Value.slice (some ⟨bA, oA, none⟩) q c) (show (((xs.length / 2 : Nat) : Int)).toNat = (xs.take (xs.length / 2)).length from by rw [List.length_take, Int.toNat_natCast]; omega)) ?_
      first | (refine RT.take (i := 5) rfl (by kernel_rfl) rfl (QO.load ty118 (by rfl) (by repeat (first | exact List.Mem.head _ | refine List.Mem.tail _ ?_)) (by rfl)) ?_) | (refine RT.take (i := 5) rfl (by kernel_rfl) rfl (QO.loadO ty118 (by rfl) (by assumption)) ?_) | (refine RT.take (i := 5) rfl (by kernel_rfl) rfl (QO.load ty118 (by rfl) (by repeat (first | exact List.Mem.head _ | refine List.Mem.tail _ ?_)) (by assumption)) ?_)
      refine RT.take (i := 6) rfl (by kernel_rfl) rfl (QO.move) ?_
      refine RT.take (i := 7) rfl (by kernel_rfl) rfl (QO.move) ?_
      refine RT.takev (i := 8) rfl (by kernel_rfl) rfl (QO.cutLo Try.underlying24 ty29 (by rfl) (by rfl) (by omega) (by omega)) (show Value.slice (cutAt bA oA ((xs.length / 2 : Nat) : Int).toNat c 1) (xs.length - ((xs.length / 2 : Nat) : Int).toNat) (c - ((xs.length / 2 : Nat) : Int).toNat) = Value.slice (cutAt bA oA (xs.length / 2) c 1) (xs.drop (xs.length / 2)).length (c - xs.length / 2) from by rw [Int.toNat_natCast, List.length_drop]) ?_
      refine RT.one (i := 4) (by kernel_rfl) rfl rfl ?_
      refine RS.call rfl (by rfl) ok146 (by rfl) (fun w ho => ih (xs.take (xs.length / 2)).length (by rw [List.length_take]; omega) (xs.take (xs.length / 2)) _ _ _ _ rfl (by rw [List.length_take]; omega) hx ((hA.take _).own ho) (ho.old hf)) ?_
      rintro _ _ ⟨r21, rfl, hr21, rfl⟩
      refine RS.nil ⟨(by repeat (first | exact List.Sublist.refl _ | exact List.nil_sublist _ | refine List.Sublist.cons_cons _ ?_ | refine List.Sublist.cons _ ?_ | exact Sbp.refl | exact Sbp.nil | refine Sbp.cons (by repeat (first | exact Rem.head | apply Rem.tail)) ?_ | exact Sbp.app | refine Sbp.skip ?_)), ?_⟩
      refine RT.one (i := 9) (by kernel_rfl) rfl rfl ?_
      refine RS.call rfl (by rfl) ok146 (by rfl) (fun w ho => ih (xs.drop (xs.length / 2)).length (by rw [List.length_drop]; omega) (xs.drop (xs.length / 2)) _ _ _ _ rfl (by rw [List.length_drop]; omega) (by unfold maxLen; omega) ((hA.drop _ hc).own ho) (ho.old hf)) ?_
      rintro _ _ ⟨r26, rfl, hr26, rfl⟩
      refine RS.nil ⟨(by repeat (first | exact List.Sublist.refl _ | exact List.nil_sublist _ | refine List.Sublist.cons_cons _ ?_ | refine List.Sublist.cons _ ?_ | exact Sbp.refl | exact Sbp.nil | refine Sbp.cons (by repeat (first | exact Rem.head | apply Rem.tail)) ?_ | exact Sbp.app | refine Sbp.skip ?_)), ?_⟩
      refine RT.one (i := 10) (by kernel_rfl) rfl rfl ?_
      refine RS.farith rfl (by rfl) (by rfl) (by simp) ?_
      intro r27 hr27
      refine RS.nil ⟨(by repeat (first | exact List.Sublist.refl _ | exact List.nil_sublist _ | refine List.Sublist.cons_cons _ ?_ | refine List.Sublist.cons _ ?_ | exact Sbp.refl | exact Sbp.nil | refine Sbp.cons (by repeat (first | exact Rem.head | apply Rem.tail)) ?_ | exact Sbp.app | refine Sbp.skip ?_)), ?_⟩
      refine RT.take (i := 11) rfl (by kernel_rfl) rfl (QO.assign) ?_
      refine RT.done (by kernel_rfl) ?_
      refine thenC_n ?_
      refine CS.ret ?_
      refine retQ.mk (H' := []) (.inr rfl) (RVs.tmp (by rfl) RVs.nil) (List.nil_sublist _) ?_
      exact ⟨r27, rfl, by rw [hr27.cl' (hr21.trans (cl_sum _).symm) (hr26.trans (cl_sum _).symm), ← sum_more hln], rfl⟩

set_option maxRecDepth 100000 in
theorem sum_ (xs : List Nat) (A : Option Addr) (n c : Nat) (W : World) (hn : xs.length = n) (hc : n ≤ c) (hx : c ≤ maxLen) (hA : FS W A xs) : Fn_ Try.prog 104 #[.slice A n c] W (fun v H => v = flt (Go.Proofs.Ytapcgokcfmklbaa.sum xs) ∧ H = []) := by
  subst hn
  refine Fn_.intro Try.func104 rfl rfl (by rfl) ?_
  refine CS.seq ?_
  refine CS.region ?_
  refine RS.q rfl (QO.assign) ?_
  refine RS.nil ?_
  refine thenC_n ?_
  refine CS.seq ?_
  refine CS.region ?_
  refine RS.alloc rfl ty118 ?_
  intro g3
  refine RS.nil ?_
  refine thenC_n ?_
  refine CS.seq ?_
  refine CS.region ?_
  refine RS.q rfl (QO.makeFunc) ?_
  refine RS.store1 ty118 rfl (by rfl) (by rfl) (by rfl) (by repeat (first | exact Upd.head | apply Upd.tail)) (by first | (simp; done) | (simp; omega) | omega) ?_
  refine RS.nil ?_
  refine thenC_n ?_
  refine CS.seq ?_
  refine CS.region ?_
  first | (refine RS.q rfl (QO.load ty118 (by rfl) (by repeat (first | exact List.Mem.head _ | refine List.Mem.tail _ ?_)) (by rfl)) ?_) | (refine RS.q rfl (QO.loadO ty118 (by rfl) (by assumption)) ?_) | (refine RS.q rfl (QO.load ty118 (by rfl) (by repeat (first | exact List.Mem.head _ | refine List.Mem.tail _ ?_)) (by assumption)) ?_)
  refine RS.q rfl (QO.move) ?_
  refine RS.call rfl (by rfl) ok146 (by rfl) (fun w ho => sum1 xs.length xs A c g3 _ rfl hc hx (hA.own ho) (by rw [(ho.blk _ (List.Mem.head _)).2.cell]; rfl)) ?_
  rintro _ _ ⟨r7, rfl, hr7, rfl⟩
  refine RS.call rfl (by rfl) ok57 (by rfl) (fun w ho => clean _ _) ?_
  rintro _ _ ⟨rfl, rfl⟩
  refine RS.q rfl (QO.assign) ?_
  refine RS.nil ?_
  refine thenC_n ?_
  refine CS.ret ?_
  refine retQ.mk (H' := []) (.inr rfl) (RVs.tmp (by rfl) RVs.nil) (List.nil_sublist _) ?_
  exact ⟨congrArg flt hr7, rfl⟩

set_option maxRecDepth 100000 in
theorem sumOf (m : Nat) : ∀ (xs : List Nat) (A : Option Addr) (c : Nat) (W : World), xs.length = m → xs.length ≤ c → c ≤ maxLen → FS W A xs →
    Fn_ Try.prog 120 #[.slice A xs.length c] W (fun v H => v = flt (Go.Proofs.Ytapcgokcfmklbaa.sum xs) ∧ H = []) := by
  induction m using Nat.strongRecOn
  rename_i m ih
  intro xs A c W hm hc hx hA
  have hx2 : c ≤ 9223372036854775807 := hx
  refine Fn_.intro Try.func120 rfl rfl (by rfl) ?_
  refine CS.seq ?_
  refine CS.region ?_
  refine RS.q rfl (QO.assign) ?_
  refine RS.nil ?_
  refine thenC_n ?_
  refine CS.seq ?_
  refine CS.seq ?_
  refine CS.region ?_
  refine RS.q rfl (QO.move) ?_
  refine RS.q rfl (QO.lenS Try.underlying24 (by rfl)) ?_
  refine RS.nil ?_
  refine thenC_n ?_
  refine CS.block ?_
  refine CS.seq ?_
  refine CS.region ?_
  refine RS.q rfl (QO.eql (by rfl) (by rfl)) ?_
  refine RS.q rfl (QO.assign) ?_
  refine RS.nil ?_
  refine thenC_n ?_
  refine CS.cond (by rfl) (fun hb0 => ?_) (fun hb0 => ?_)
  · have hb0p := eq_of_beq hb0
    refine CS.seq ?_
    refine CS.region ?_
    refine RS.q rfl (QO.assign) ?_
    refine RS.nil ?_
    refine thenC_n ?_
    refine CS.ret ?_
    refine blockC_r ?_
    refine thenC_r ?_
    refine retQ.mk (H' := []) (.inr rfl) (RVs.tmp (by rfl) RVs.nil) (List.nil_sublist _) ?_
    exact ⟨congrArg flt (by obtain rfl : xs = [] := List.eq_nil_of_length_eq_zero (by have := eq_of_beq hb0; omega); rfl), rfl⟩
  · have hb0p := ne_of_beq_false hb0
    refine CS.seq ?_
    refine CS.region ?_
    refine RS.q rfl (QO.eql (by rfl) (by rfl)) ?_
    refine RS.q rfl (QO.assign) ?_
    refine RS.nil ?_
    refine thenC_n ?_
    refine CS.cond (by rfl) (fun hb1 => ?_) (fun hb1 => ?_)
    · have hb1p := eq_of_beq hb1
      refine CS.seq ?_
      refine CS.region ?_
      obtain ⟨x0, rfl⟩ : ∃ x0, xs = [x0] := by
        match xs, eq_of_beq hb1 with
        | [x0], _ => exact ⟨x0, rfl⟩
      obtain ⟨bA, oA, rfl, hcell⟩ := hA (by simp)
      refine RS.q rfl (QO.move) ?_
      first | (refine RS.q rfl (QO.idx0 Try.underlying24 ty29 (by rfl) (by rfl) (by rfl) (by omega)) ?_) | (refine RS.q rfl (QO.idxn Try.underlying24 ty29 (by rfl) (by rfl) (by rfl) (by omega)) ?_) | (refine RS.q rfl (QO.idx1 Try.underlying24 ty29 (by rfl) (by rfl) (by omega) (by omega)) ?_)
      refine RS.q rfl (QO.loadO ty29 (by rfl) (hcell 0 x0 rfl)) ?_
      refine RS.call rfl (by rfl) ok82 (by rfl) (fun w ho => fix _ _) ?_
      rintro _ _ ⟨rfl, rfl⟩
      refine RS.q rfl (QO.assign) ?_
      refine RS.nil ?_
      refine thenC_n ?_
      refine CS.ret ?_
      refine blockC_r ?_
      refine thenC_r ?_
      refine retQ.mk (H' := []) (.inr rfl) (RVs.tmp (by rfl) RVs.nil) (List.nil_sublist _) ?_
      exact ⟨congrArg flt (sum_one x0).symm, rfl⟩
    · have hb1p := ne_of_beq_false hb1
      refine CS.skip ?_
      refine blockC_n ?_
      refine thenC_n ?_
      refine CS.seq ?_
      refine CS.region ?_
      have hln : 2 ≤ xs.length := by have := ne_of_beq_false hb0; have := ne_of_beq_false hb1; omega
      obtain ⟨bA, oA, rfl, hcell⟩ := hA (by omega)
      refine RS.q rfl (QO.move) ?_
      refine RS.q rfl (QO.lenS Try.underlying24 (by rfl)) ?_
      refine RS.qv rfl (QO.quo (by rfl) (by rfl) (by omega) (by omega) (by omega)) (congrArg iv (tdiv2 xs.length)) ?_
      refine RS.q rfl (QO.assign) ?_
      refine RS.nil ?_
      refine thenC_n ?_
      refine CS.seq ?_
      refine CS.draw 11 rfl (by kernel_rfl) (by kernel_rfl) ?_
      refine RT.take (i := 0) rfl (by kernel_rfl) rfl (QO.move) ?_
      refine RT.take (i := 1) rfl (by kernel_rfl) rfl (QO.move) ?_
      refine RT.takev (i := 2) rfl (by kernel_rfl) rfl (QO.cutHi Try.underlying24 ty29 (by rfl) (by rfl) (by omega) (by omega)) (congrArg (fun q => Value.slice (some ⟨bA, oA, none⟩) q c) (show (((xs.length / 2 : Nat) : Int)).toNat = (xs.take (xs.length / 2)).length from by rw [List.length_take, Int.toNat_natCast]; omega)) ?_
      refine RT.take (i := 4) rfl (by kernel_rfl) rfl (QO.move) ?_
      refine RT.take (i := 5) rfl (by kernel_rfl) rfl (QO.move) ?_
      refine RT.takev (i := 6) rfl (by kernel_rfl) rfl (QO.cutLo Try.underlying24 ty29 (by rfl) (by rfl) (by omega) (by omega)) (show Value.slice (cutAt bA oA ((xs.length / 2 : Nat) : Int).toNat c 1) (xs.length - ((xs.length / 2 : Nat) : Int).toNat) (c - ((xs.length / 2 : Nat) : Int).toNat) = Value.slice (cutAt bA oA (xs.length / 2) c 1) (xs.drop (xs.length / 2)).length (c - xs.length / 2) from by rw [Int.toNat_natCast, List.length_drop]) ?_
      refine RT.one (i := 3) (by kernel_rfl) rfl rfl ?_
      refine RS.call rfl (by rfl) ok120 (by rfl) (fun w ho => ih (xs.take (xs.length / 2)).length (by rw [List.length_take]; omega) (xs.take (xs.length / 2)) _ _ _ rfl (by rw [List.length_take]; omega) hx ((hA.take _).own ho)) ?_
      rintro _ _ ⟨rfl, rfl⟩
      refine RS.nil ⟨(by repeat (first | exact List.Sublist.refl _ | exact List.nil_sublist _ | refine List.Sublist.cons_cons _ ?_ | refine List.Sublist.cons _ ?_ | exact Sbp.refl | exact Sbp.nil | refine Sbp.cons (by repeat (first | exact Rem.head | apply Rem.tail)) ?_ | exact Sbp.app | refine Sbp.skip ?_)), ?_⟩
      refine RT.one (i := 7) (by kernel_rfl) rfl rfl ?_
      refine RS.call rfl (by rfl) ok120 (by rfl) (fun w ho => ih (xs.drop (xs.length / 2)).length (by rw [List.length_drop]; omega) (xs.drop (xs.length / 2)) _ _ _ rfl (by rw [List.length_drop]; omega) (by unfold maxLen; omega) ((hA.drop _ hc).own ho)) ?_
      rintro _ _ ⟨rfl, rfl⟩
      refine RS.nil ⟨(by repeat (first | exact List.Sublist.refl _ | exact List.nil_sublist _ | refine List.Sublist.cons_cons _ ?_ | refine List.Sublist.cons _ ?_ | exact Sbp.refl | exact Sbp.nil | refine Sbp.cons (by repeat (first | exact Rem.head | apply Rem.tail)) ?_ | exact Sbp.app | refine Sbp.skip ?_)), ?_⟩
      refine RT.one (i := 8) (by kernel_rfl) rfl rfl ?_
      refine RS.farith rfl (by rfl) (by rfl) (by simp) ?_
      intro r25 hr25
      refine RS.nil ⟨(by repeat (first | exact List.Sublist.refl _ | exact List.nil_sublist _ | refine List.Sublist.cons_cons _ ?_ | refine List.Sublist.cons _ ?_ | exact Sbp.refl | exact Sbp.nil | refine Sbp.cons (by repeat (first | exact Rem.head | apply Rem.tail)) ?_ | exact Sbp.app | refine Sbp.skip ?_)), ?_⟩
      refine RT.one (i := 9) (by kernel_rfl) rfl rfl ?_
      refine RS.call rfl (by rfl) ok82 (by rfl) (fun w ho => fix _ _) ?_
      rintro _ _ ⟨rfl, rfl⟩
      refine RS.nil ⟨(by repeat (first | exact List.Sublist.refl _ | exact List.nil_sublist _ | refine List.Sublist.cons_cons _ ?_ | refine List.Sublist.cons _ ?_ | exact Sbp.refl | exact Sbp.nil | refine Sbp.cons (by repeat (first | exact Rem.head | apply Rem.tail)) ?_ | exact Sbp.app | refine Sbp.skip ?_)), ?_⟩
      refine RT.take (i := 10) rfl (by kernel_rfl) rfl (QO.assign) ?_
      refine RT.done (by kernel_rfl) ?_
      refine thenC_n ?_
      refine CS.ret ?_
      refine retQ.mk (H' := []) (.inr rfl) (RVs.tmp (by rfl) RVs.nil) (List.nil_sublist _) ?_
      exact ⟨congrArg flt (by rw [hr25.cl, ← sum_more hln]), rfl⟩

set_option maxRecDepth 100000 in
theorem rplane (x y wi he : Int) (A : Option Addr) (n c : Nat) (xs : List Nat) (ch : Int) (m : Nat) (W : World) (hn : xs.length = n) (hA : FS W A xs) (hm : xs.length = 4 * m) (hmx : m ≤ 65536) (h0 : 0 ≤ ch) (h3 : ch ≤ 3) : Fn_ Try.prog 115 #[.agg #[iv x, iv y, iv wi, iv he, .slice A n c], iv ch] W (fun v H => Row 29 1 v m ((planeV xs ch m).map flt) H) := by
  subst hn
  refine Fn_.intro Try.func115 rfl rfl (by rfl) ?_
  refine CS.seq ?_
  refine CS.region ?_
  refine RS.box rfl (by rfl) (by rfl) ?_
  intro g2
  refine RS.q rfl (QO.assign) ?_
  refine RS.nil ?_
  refine thenC_n ?_
  refine CS.seq ?_
  refine CS.region ?_
  refine RS.q rfl (QO.assign) ?_
  refine RS.nil ?_
  refine thenC_n ?_
  refine CS.seq ?_
  refine CS.seq ?_
  refine CS.region ?_
  refine RS.q rfl (QO.move) ?_
  refine RS.q rfl (QO.assign) ?_
  refine RS.nil ?_
  refine thenC_n ?_
  refine CS.block ?_
  refine CS.loop (X := Nat × Value × HL) (5 :: 6 :: 8 :: 9 :: 10 :: 11 :: 12 :: 13 :: 14 :: 15 :: 16 :: 17 :: 18 :: 19 :: 20 :: 21 :: 22 :: 23 :: []) (fun z => [(5, z.2.1), (6, iv (4 * (z.1 : Int) + ch))]) (fun z => ⟨g2, 26, [iv x, iv y, iv wi, iv he, .slice A xs.length c]⟩ :: z.2.2) (fun z => z.1 ≤ m ∧ Row 29 1 z.2.1 z.1 ((planeV xs ch z.1).map flt) z.2.2) (fun z => m - z.1) (0, .slice none 0 0, []) ⟨Nat.zero_le _, .nil⟩ ?_ ?_ ?_
  · exact kn_cons (by rfl) (kn_cons (congrArg iv (by simp)) kn_nil)
  · exact (by repeat (first | exact List.Sublist.refl _ | exact List.nil_sublist _ | refine List.Sublist.cons_cons _ ?_ | refine List.Sublist.cons _ ?_ | exact Sbp.refl | exact Sbp.nil | refine Sbp.cons (by repeat (first | exact Rem.head | apply Rem.tail)) ?_ | exact Sbp.app | refine Sbp.skip ?_))
  · intro z gj3 hz
    obtain ⟨k, vo, Hr⟩ := z
    obtain ⟨hk, hrow⟩ := hz
    simp only at hk hrow
    refine CS.seq ?_
    refine CS.seq ?_
    refine CS.region ?_
    refine RS.q rfl (QO.move) ?_
    refine RS.q rfl (QO.fieldAddr fo26_1 (by rfl)) ?_
    first | (refine RS.q rfl (QO.load ty24 (by rfl) (by repeat (first | exact List.Mem.head _ | refine List.Mem.tail _ ?_)) (by rfl)) ?_) | (refine RS.q rfl (QO.loadO ty24 (by rfl) (by assumption)) ?_) | (refine RS.q rfl (QO.load ty24 (by rfl) (by repeat (first | exact List.Mem.head _ | refine List.Mem.tail _ ?_)) (by assumption)) ?_)
    refine RS.q rfl (QO.lenS Try.underlying24 (by rfl)) ?_
    refine RS.q rfl (QO.lss (by rfl) (by rfl)) ?_
    refine RS.nil ?_
    refine thenC_n ?_
    refine CS.cond (by rfl) (fun hb0 => ?_) (fun hb0 => ?_)
    · have hb0p := of_decide_eq_true hb0
      refine CS.skip ?_
      refine thenC_n ?_
      refine CS.seq ?_
      refine CS.block ?_
      refine CS.region ?_
      obtain ⟨bA, oA, rfl, hcell⟩ := hA (by omega)
      have hlt : (4 * (k : Int) + ch).toNat < xs.length := by omega
      refine RS.q rfl (QO.move) ?_
      refine RS.q rfl (QO.fieldAddr fo26_1 (by rfl)) ?_
      first | (refine RS.q rfl (QO.load ty24 (by rfl) (by repeat (first | exact List.Mem.head _ | refine List.Mem.tail _ ?_)) (by rfl)) ?_) | (refine RS.q rfl (QO.loadO ty24 (by rfl) (by assumption)) ?_) | (refine RS.q rfl (QO.load ty24 (by rfl) (by repeat (first | exact List.Mem.head _ | refine List.Mem.tail _ ?_)) (by assumption)) ?_)
      refine RS.q rfl (QO.move) ?_
      first | (refine RS.q rfl (QO.idx0 Try.underlying24 ty29 (by rfl) (by rfl) (by rfl) (by omega)) ?_) | (refine RS.q rfl (QO.idxn Try.underlying24 ty29 (by rfl) (by rfl) (by rfl) (by omega)) ?_) | (refine RS.q rfl (QO.idx1 Try.underlying24 ty29 (by rfl) (by rfl) (by omega) (by omega)) ?_)
      refine RS.q rfl (QO.loadO ty29 (by rfl) (hcell _ _ (List.getElem?_eq_getElem hlt))) ?_
      refine RS.call rfl (by rfl) ok82 (by rfl) (fun w ho => fix _ _) ?_
      rintro _ _ ⟨rfl, rfl⟩
      refine RS.buildSlice rfl Try.underlying24 ty29 (by decide) (by decide) (by rfl) (by rfl) ?_
      intro g22
      refine RS.appendRow rfl Try.underlying24 ty29 (by rfl) hrow (by repeat (first | exact Suf.base | apply Suf.cons)) (by rfl) (Src.blk (by repeat (first | exact List.Mem.head _ | refine List.Mem.tail _ ?_))) (by rfl) (by rfl) (by decide) (by decide) (by unfold maxLen; omega) (by omega) ?_
      intro v23 H23 hrow23
      refine RS.q rfl (QO.assign) ?_
      refine RS.nil ?_
      refine blockC_n ?_
      refine thenC_n ?_
      refine CS.region ?_
      refine RS.q rfl (QO.move) ?_
      first | (refine RS.q rfl (QO.add (by rfl) (by rfl) (by omega) (by omega)) ?_) | (refine RS.q rfl (QO.ibin (by rfl) (by rfl) trivial) ?_)
      refine RS.q rfl (QO.assign) ?_
      refine RS.nil ?_
      refine loopQ_n (by intro t ht; repeat (first | with_reducible exact rfl | exact frame_puts ht (frame_mix ht) _ rfl | (refine frame_put rfl ht ?_) | (refine frame_puts ht ?_ _ rfl) | exact frame_mix ht | (refine frame_mix2 rfl ht ?_) | exact rfl)) ?_
      have hrw : Row 29 1 v23 (k + 1) ((planeV xs ch k).map flt ++ [flt (cl xs[(4 * (k : Int) + ch).toNat])]) H23 := hrow23
      rw [planeF_at xs ch k hlt] at hrw
      exact ⟨(k + 1, v23, H23), ⟨by show k + 1 ≤ m; omega, by simpa [planeV, List.range_succ] using hrw⟩, by show m - (k + 1) < m - k; omega, kn_cons (by rfl) (kn_cons (congrArg iv (by show 4 * (k : Int) + ch + 4 = 4 * ((k + 1 : Nat) : Int) + ch; omega)) kn_nil), (by repeat (first | exact List.Sublist.refl _ | exact List.nil_sublist _ | refine List.Sublist.cons_cons _ ?_ | refine List.Sublist.cons _ ?_ | exact Sbp.refl | exact Sbp.nil | refine Sbp.cons (by repeat (first | exact Rem.head | apply Rem.tail)) ?_ | exact Sbp.app | refine Sbp.skip ?_))⟩
    · have hb0p := of_decide_eq_false hb0
      refine CS.exit ?_
      refine thenC_x ?_
      refine loopQ_x ?_
      refine blockC_x ?_
      refine thenC_n ?_
      refine CS.seq ?_
      refine CS.region ?_
      refine RS.q rfl (QO.move) ?_
      refine RS.q rfl (QO.assign) ?_
      refine RS.nil ?_
      refine thenC_n ?_
      refine CS.ret ?_
      refine retQ.mk (H' := Hr) (.inr rfl) (RVs.tmp (by rfl) RVs.nil) (by repeat (first | exact List.Sublist.refl _ | exact List.nil_sublist _ | refine List.Sublist.cons_cons _ ?_ | refine List.Sublist.cons _ ?_ | exact Sbp.refl | exact Sbp.nil | refine Sbp.cons (by repeat (first | exact Rem.head | apply Rem.tail)) ?_ | exact Sbp.app | refine Sbp.skip ?_)) ?_
      obtain rfl : k = m := by omega
      exact hrow

theorem sumOf' (xs : List Nat) (A : Option Addr) (n c : Nat) (W : World) (hn : xs.length = n) (hc : n ≤ c) (hx : c ≤ maxLen) (hA : FS W A xs) : Fn_ Try.prog 120 #[.slice A n c] W (fun v H => v = flt (Go.Proofs.Ytapcgokcfmklbaa.sum xs) ∧ H = []) := by
  subst hn; exact sumOf _ xs A c W rfl hc hx hA
theorem PlaneR.ok {x y wi he : Int} {xs : List Nat} {ch : Int} {v : Value} {H : HL} (h : PlaneR x y wi he xs ch v H) (e : frErr x y wi he xs.length = 0) (h0 : 0 ≤ ch) (h3 : ch ≤ 3) :
    ∃ g, v = .tuple #[.slice (some ⟨g, 0, none⟩) (wi * he).toNat (wi * he).toNat, iv 0] ∧ H = [⟨g, 29, (planeV xs ch (wi * he).toNat).map flt⟩] := by
  rcases h with ⟨h, _⟩ | ⟨_, h, _⟩ | ⟨_, _, _, h⟩
  · exact absurd e h
  · omega
  · exact h
/-- the sum of a channel -/
def chanF (xs : List Nat) (m : Nat) (ch : Nat) : Nat := Go.Proofs.Ytapcgokcfmklbaa.sum (planeV xs (ch : Int) m)
theorem fitN_eq (wi he : Int) : ((fitN wi he : Nat) : Int) = 4 * (1 + and7 wi) * (1 + and7 he) ∧ 4 * (1 + and7 wi) * (1 + and7 he) = 4 * ((1 + and7 wi) * (1 + and7 he)) ∧ 1 ≤ (1 + and7 wi) * (1 + and7 he) ∧ (1 + and7 wi) * (1 + and7 he) ≤ 64 := by
  have h1 := and7_bd wi
  have h2 := and7_bd he
  have h5 : (1 + and7 wi) * (1 + and7 he) ≤ 8 * 8 := Int.mul_le_mul (by omega) (by omega) (by omega) (by omega)
  have h6 : 1 * 1 ≤ (1 + and7 wi) * (1 + and7 he) := Int.mul_le_mul (by omega) (by omega) (by omega) (by omega)
  have h7 : 4 * (1 + and7 wi) * (1 + and7 he) = 4 * ((1 + and7 wi) * (1 + and7 he)) := Int.mul_assoc ..
  unfold fitN
  omega
theorem fitV_len (xs : List Nat) (wi he : Int) : (fitV xs wi he).length = fitN wi he := by simp [fitV]
end Go.Proofs.Ytapcgokcfmklbaa

namespace Go.Proofs.Ytapcgokcfmklbaa
open Go Go.RowKit

/-- Called over the caller's own blocks H (those beyond W), f hands back a value and leaves blocks that stand in the relation R. -/
def FnH (P : Program) (f : FuncId) (args : Array Value) (W : World) (H : HL) (R : Value → HL → Prop) : Prop :=
  ∀ w, Own W w H → Calls P f args w (fun x w' => ∃ v H', x = .returned v ∧ Own W w' H' ∧ R v H')
theorem FnH.mono {P : Program} {f : FuncId} {args : Array Value} {W : World} {H : HL} {R R' : Value → HL → Prop} (h : FnH P f args W H R) (hr : ∀ v H, R v H → R' v H) : FnH P f args W H R' :=
  fun w ho => Calls.mono (h w ho) fun _ _ ⟨v, H, h1, h2, h3⟩ => ⟨v, H, h1, h2, hr _ _ h3⟩
theorem FnH.intro {P : Program} {W : World} {f : FuncId} {fn : Func} {c : Code} {n : Nat} {args : Array Value} {H : HL} {R : Value → HL → Prop} (hf : P.funcs[f]? = some fn) (hb : fn.body = some c) (hn : fn.ntmps = n) (hargs : Nat.ble args.size n = true)
    (h : CS P W n c (retQ P fn.results R) (argsE args) H) : FnH P f args W H R := by
  subst hn
  intro w0 ho0
  refine calls_of_wp hf hb (wp_mono (h _ _ (rep_start _ _ (Nat.le_of_ble_eq_true hargs)) ho0) fun x a w hq => ?_)
  obtain ⟨e, H, hr, ho, hx, vs, H', hv, hs, hR⟩ := hq
  have hv' := hv.run hr ho
  have key : a.defers = [] ∧ ∃ v, (results fn a.tmps).run P w = .ok v w ∧ ∃ v' H', Ending.returned v = .returned v' ∧ Own W w H' ∧ R v' H' := by
    refine ⟨hr.defers, one vs, ?_, one vs, H', rfl, ho.sub hs, hR⟩
    have hres : results fn a.tmps = (do
        let vs ← fn.results.mapM (resOf a.tmps)
        Pure.pure (if h : vs.size = 1 then vs[0] else .tuple vs)) := by
      unfold results
      congr 1
    rw [hres, Array.mapM_eq_mapM_toList]
    simp only [Sem.run_bind, Sem.run_map, hv', Result.andThen_ok, Sem.run_pure]
    congr 1
    match vs with
    | [] => rfl
    | [v] => rfl
    | v :: u :: l => simp [one]
  rcases hx with rfl | rfl <;> exact key
section
variable {P : Program} {W : World} {n : Nat} {ops : Array Oper} {Q : Env → HL → Prop} {rest : List Oper} {e : Env} {H : HL}
variable {d : Tmp} {ty : TypeId} {pos : String} {af : Array Edge}
theorem RS.callH {fo : Operand} {xs : Array Operand} {ats : Array TypeId} {f : FuncId} {first cap : Array Value} {argl : List Value} {R : Value → HL → Prop} (H1 : HL) (hd : Nat.blt d n = true) (hf : ev e fo = .func (.func f) first cap) (hok : callOK P f = true)
    (ha : first.toList ++ xs.toList.map (ev e) ++ cap.toList = argl) (hs : Sbp H1 H) (hc : ∀ w, Own W w H1 → FnH P f argl.toArray W H1 R) (k : ∀ v Hn, R v Hn → RS P W n ops Q rest (put e d v) Hn) :
    RS P W n ops Q (⟨some d, .call ⟨.value fo, xs, ats⟩, ty, pos, af, none⟩ :: rest) e H := by
  intro a w hr ho
  have ho := ho.sbp hs
  simp only [wpList, Region.wanted, if_true]
  left
  unfold Oper.wp
  have hrun : (execOp a.eval ⟨some d, .call ⟨.value fo, xs, ats⟩, ty, pos, af, none⟩).run P w = .ok (.enter f argl.toArray) w := by
    rw [hr.eval]
    simp only [execOp, resolve, hf, Deferred.ofValue, Sem.run_bind, Sem.run_pure, Result.andThen_ok, invoke, args_eq ha, run_callFunc hok]
  rw [hrun, Oper.upon_enter]
  refine Calls.mono (hc w ho w ho) fun x w' hx => ?_
  obtain ⟨v, Hn, rfl, h2, h3⟩ := hx
  exact k v Hn h3 _ _ (hr.put (d := some d) hd v) h2
end
end Go.Proofs.Ytapcgokcfmklbaa

namespace Go.Proofs.Ytapcgokcfmklbaa
open Go Go.RowKit

def and64 (i j : Int) : Int := IntKind.i64.wrap (BitVec.ofInt 64 i &&& BitVec.ofInt 64 j).toNat
theorem and64_bd {i j : Int} (h0 : 0 ≤ j) (h1 : j < 9223372036854775808) : 0 ≤ and64 i j ∧ and64 i j ≤ j := by
  have h2 : (BitVec.ofInt 64 i &&& BitVec.ofInt 64 j).toNat ≤ (BitVec.ofInt 64 j).toNat := by
    rw [BitVec.toNat_and]; exact Nat.and_le_right
  have h3 : ((BitVec.ofInt 64 j).toNat : Int) = j := by
    rw [BitVec.toNat_ofInt]
    have : j % ((2 ^ 64 : Nat) : Int) = j := by omega
    rw [this]; omega
  unfold and64
  rw [w64 (by omega) (by omega)]
  omega
section
variable {P : Program} {W : World} {H : HL} {e : Env} {x y : Operand} {t t' ty : TypeId}
theorem QO.and64 {i j : Int} (hx : ev e x = .int .i64 i) (hy : ev e y = .int .i64 j) : QO P W H e (.binOp .and t x y t') ty (.int .i64 (Go.Proofs.Ytapcgokcfmklbaa.and64 i j)) := QO.ibin hx hy (op := .and) trivial
theorem QO.conv_int {k k0 k' : IntKind} {n : Int} (hu : P.underlying t = some (.int k0)) (hu' : P.underlying t' = some (.int k')) (hx : ev e x = .int k n) : QO P W H e (.convert t t' x) ty (.int k' (k'.wrap n)) := fun d pos af gd w _ => by
  simp only [execOp, hx, Sem.run_bind, Sem.run_pure]
  simp [convert, run_underlying hu, run_underlying hu', Conv.intToInt]
end
/-- the place of a single in the order -/
def plV (v : Nat) : Int := if and64 v 2147483648 ≠ 0 then -(and64 v 2147483647) - 1 else v
theorem plV_1 {v : Nat} (h : and64 v 2147483648 ≠ 0) : -(and64 v 2147483647) - 1 = plV v := (if_pos h).symm
theorem plV_2 {v : Nat} (h : and64 v 2147483648 = 0) : (v : Int) = plV v := (if_neg (by simpa using h)).symm
theorem plV_bd {v : Nat} (h : v < 4294967296) : -4294967296 ≤ plV v ∧ plV v ≤ 4294967296 := by
  have h1 := and64_bd (i := (v : Int)) (j := 2147483647) (by decide) (by decide)
  unfold plV
  split <;> omega
theorem fitV_lt {xs : List Nat} {wi he : Int} (h : ∀ x ∈ xs, x < 4294967296) : ∀ x ∈ fitV xs wi he, x < 4294967296 := by
  intro x hx
  unfold fitV at hx
  obtain ⟨i, _, rfl⟩ := List.mem_map.1 hx
  unfold fitv
  split
  · rename_i h0
    rw [List.getD_eq_getElem?_getD, List.getElem?_eq_getElem (Nat.mod_lt _ h0)]
    exact h _ (List.getElem_mem _)
  · omega
end Go.Proofs.Ytapcgokcfmklbaa

namespace Go.Proofs.Ytapcgokcfmklbaa
open Go Go.RowKit

/-- none of X has come up -/
def noX (X : List Nat) (listed : Array Bool) : Bool := X.all fun x => !listed.getD x false
theorem noX_set {X : List Nat} {listed : Array Bool} {i : Nat} (h : noX X (listed.setIfInBounds i true) = true) : noX X listed = true := by
  unfold noX at *
  rw [List.all_eq_true] at h ⊢
  intro x hx
  have h1 := h x hx
  by_cases e : i = x
  · subst e
    rcases Nat.lt_or_ge i listed.size with hl | hl
    · simp [hl] at h1
    · simp [Array.getElem?_eq_none hl]
  · rw [getD_set_ne false e] at h1; exact h1
theorem noX_ne {X : List Nat} {listed : Array Bool} {j : Nat} (h : noX X listed = true) (hj : X.contains j = false) : noX X (listed.setIfInBounds j true) = true := by
  unfold noX at *
  rw [List.all_eq_true] at h ⊢
  intro x hx
  have h1 := h x hx
  have e : j ≠ x := fun e => by
    subst e
    have : X.contains j = true := by simpa using hx
    rw [this] at hj; cases hj
  rw [getD_set_ne false e]; exact h1
/-- Whatever order is picked from here on; behind each operation the world meets T, and S as long as none of X has come up. -/
def wpAny2 (P : Program) (ops : Array Oper) (Q : Exit → Act → World → Prop) (S T : World → Prop) (X : List Nat) : Nat → Array Bool → Act → World → Prop
  | 0, listed, a, w => Region.ready .any ops listed = [] ∧ Q .normal a w
  | fuel + 1, listed, a, w =>
    (Region.ready .any ops listed = [] → Q .normal a w) ∧
    ∀ i ∈ Region.ready .any ops listed, wpOp P ops Q i (fun a' w' => ((noX X (listed.setIfInBounds i true) = true → S w') ∧ T w') ∧ wpAny2 P ops Q S T X fuel (listed.setIfInBounds i true) a' w') a w
/-- each operation of X waits for i -/
def waitsX (ops : Array Oper) (X : List Nat) (i : Nat) : Bool := X.all fun j => match ops[j]? with
  | some o => o.after.any fun e => Region.binds .any e && e.on == i
  | none => true
section
variable {P : Program} {ops : Array Oper} {Q : Exit → Act → World → Prop} {S T : World → Prop} {X : List Nat}
theorem wpAny_of_2 : ∀ (fuel : Nat) (listed : Array Bool) (a : Act) (w : World), wpAny2 P ops Q S T X fuel listed a w → wpAny P .any ops Q fuel listed a w
  | 0, _, _, _, h => h
  | fuel + 1, _, _, _, h => ⟨h.1, fun i hi => wpOp_mono (fun _ _ h' => wpAny_of_2 fuel _ _ _ h'.2) (h.2 i hi)⟩
theorem waitsX_spec {i : Nat} (h : waitsX ops X i = true) {j : Nat} {o : Oper} (hj : ops[j]? = some o) (hx : X.contains j = true) : ∃ e ∈ o.after, Region.binds .any e = true ∧ e.on = i := by
  unfold waitsX at h
  have h1 := List.all_eq_true.1 h j (by simpa using hx)
  rw [hj] at h1
  obtain ⟨e, he, hb⟩ := Array.any_eq_true'.1 h1
  simp only [Bool.and_eq_true, beq_iff_eq] at hb
  exact ⟨e, he, hb.1, hb.2⟩
/-- What only reads may be taken first: 'V' is what its value leans on. -/
theorem wpAny2_first {i : Nat} {oi : Oper} {v : Value} {V : World → Prop} (hiX : X.contains i = false) (hi : ops[i]? = some oi) (hsel : ∀ (j : Nat) (o : Oper) cs b, ops[j]? = some o → o.op ≠ .select cs b)
    (hQ : ∀ c a w, Q (.panic c) (a.put oi.dst v) w → Q (.panic c) a w) :
    ∀ (fuel : Nat) (listed : Array Bool) (a : Act) (w : World), (V = T ∨ (V = S ∧ waitsX ops X i = true ∧ noX X listed = true)) →
      (∀ j oj, ops[j]? = some oj → j ≠ i → listed.getD j true = false → (∀ e ∈ oj.after, Region.binds .any e = true → e.on ≠ i) → oi.apart ops oj = true) →
      i ∈ Region.ready .any ops listed → YieldsIf P ops V oi v a → V w → (noX X listed = true → S w) → T w →
      wpAny2 P ops Q S T X fuel (listed.setIfInBounds i true) (a.put oi.dst v) w → wpAny2 P ops Q S T X (fuel + 1) listed a w := by
  intro fuel
  induction fuel with
  | zero =>
    intro listed a w _ _ hr hy hV hS hT H
    refine ⟨fun h => (by rw [h] at hr; cases hr), fun j hj => ?_⟩
    by_cases hji : j = i
    · subst hji; exact hy.wpOp hi hV ⟨⟨fun h => hS (noX_set h), hT⟩, H⟩
    · have := ready_mono hj hji
      rw [H.1] at this
      cases this
  | succ fuel ih =>
    intro listed a w hk hfree hr hy hV hS hT H
    refine ⟨fun h => (by rw [h] at hr; cases hr), fun j hj => ?_⟩
    by_cases hji : j = i
    · subst hji; exact hy.wpOp hi hV ⟨⟨fun h => hS (noX_set h), hT⟩, H⟩
    · have h1 := H.2 j (ready_mono hj hji)
      obtain ⟨hjun, oj, hoj, hall⟩ := mem_ready.1 hj
      have hnot : ∀ e ∈ oj.after, Region.binds .any e = true → e.on ≠ i := fun e he hb heq => by
        have h1 := hall e he hb
        have h0 := (mem_ready.1 hr).1
        rw [heq] at h1
        rcases Nat.lt_or_ge i listed.size with h' | h'
        · simp [h'] at h0 h1; rw [h0] at h1; cases h1
        · simp [Array.getElem?_eq_none h'] at h1
      have h2 := wpOp_putIf hoj (hfree j oj hoj hji hjun hnot) (fun cs b => hsel i oi cs b hi) (fun cs b => hsel j oj cs b hoj) hQ hy h1
      have hfree' : ∀ q ok, ops[q]? = some ok → q ≠ i → (listed.setIfInBounds j true).getD q true = false →
          (∀ e ∈ ok.after, Region.binds .any e = true → e.on ≠ i) → oi.apart ops ok = true := fun q ok hq hqi hun hno => by
        refine hfree q ok hq hqi ?_ hno
        by_cases hjq : j = q
        · subst hjq; exact hjun
        · rw [getD_set_ne true hjq] at hun; exact hun
      have hkj : V = T ∨ (V = S ∧ waitsX ops X i = true ∧ noX X (listed.setIfInBounds j true) = true) := by
        rcases hk with hk | ⟨hk, hw, hn⟩
        · exact .inl hk
        · refine .inr ⟨hk, hw, noX_ne hn ?_⟩
          cases hx : X.contains j with
          | false => rfl
          | true =>
            obtain ⟨e, he, hb, ho⟩ := waitsX_spec hw hoj hx
            exact absurd ho (hnot e he hb)
      have hcomm : (listed.setIfInBounds i true).setIfInBounds j true = (listed.setIfInBounds j true).setIfInBounds i true := Array.setIfInBounds_comm _ _ (Ne.symm hji)
      refine wpOp_mono (fun a' w' h3 => ?_) h2
      obtain ⟨hy', ⟨hS', hT'⟩, hW'⟩ := h3
      rw [hcomm] at hS' hW'
      have hSj : noX X (listed.setIfInBounds j true) = true → S w' := fun h => hS' (noX_ne h hiX)
      have hVj : V w' := by
        rcases hkj with hk | ⟨hk, _, hn⟩
        · rw [hk]; exact hT'
        · rw [hk]; exact hSj hn
      exact ⟨⟨hSj, hT'⟩, ih (listed.setIfInBounds j true) a' w' hkj hfree' (ready_mono hr (Ne.symm hji)) hy' hVj hSj hT' hW'⟩
end
/-! ### in the calculus -/
def RT2 (P : Program) (W : World) (n : Nat) (ops : Array Oper) (X : List Nat) (HS HT : HL) (Q : Env → HL → Prop) (fuel : Nat) (listed : Array Bool) (e : Env) (H : HL) : Prop :=
  Region.noSelect ops = true → (noX X listed = true → HS.Sublist H) → HT.Sublist H → ∀ a w, Rep n a e → Own W w H → wpAny2 P ops (PostN W n Q) (fun w => Own W w HS) (fun w => Own W w HT) X fuel listed a w
section
variable {P : Program} {W : World} {n : Nat} {ops : Array Oper} {X : List Nat} {HS HT H : HL} {Q : Env → HL → Prop} {fuel : Nat} {listed : Array Bool} {e : Env}
variable {d : Tmp} {op : Op} {ty : TypeId} {pos : String} {af : Array Edge} {v : Value} {i j : Nat}
theorem RT2.done (hr : Region.ready .any ops listed = []) (h : Q e H) : RT2 P W n ops X HS HT Q fuel listed e H := by
  intro _ _ _ a w hrep ho
  have hp : PostN W n Q .normal a w := ⟨e, H, hrep, ho, h⟩
  cases fuel with
  | zero => exact ⟨hr, hp⟩
  | succ f => exact ⟨fun _ => hp, by rw [hr]; simp⟩
def take2OK (ops : Array Oper) (X : List Nat) (listed : Array Bool) (i : Nat) : Bool := !X.contains i && Region.free .any ops listed i && (Region.ready .any ops listed).contains i
def take1OK (ops : Array Oper) (X : List Nat) (listed : Array Bool) (i : Nat) : Bool := take2OK ops X listed i && waitsX ops X i && noX X listed
/-- a reading of what stands until X -/
theorem RT2.take1 (hi : ops[i]? = some ⟨some d, op, ty, pos, af, none⟩) (hc : take1OK ops X listed i = true) (hd : Nat.blt d n = true) (hq : QO P W HS e op ty v)
    (h : RT2 P W n ops X HS HT Q fuel (listed.setIfInBounds i true) (put e d v) H) : RT2 P W n ops X HS HT Q (fuel + 1) listed e H := by
  intro hs hS hT a w hrep ho
  simp only [take1OK, take2OK, Bool.and_eq_true, Bool.not_eq_true'] at hc
  obtain ⟨⟨⟨⟨hx, hf⟩, hr⟩, hw⟩, hn⟩ := hc
  refine wpAny2_first (V := fun w => Own W w HS) (v := v) hx hi (Region.noSelect_spec hs) hQpanic fuel listed a w (.inr ⟨rfl, hw, hn⟩) (Region.free_spec hi hf) (by simpa using hr) ?_ (ho.sub (hS hn)) (fun h => ho.sub (hS h)) (ho.sub hT) (h hs (fun hh => hS (noX_set hh)) hT _ _ (hrep.put (d := some d) hd v) ho)
  refine .inl ⟨rfl, fun w' hw' => ?_⟩
  rw [hrep.eval]
  exact hq _ _ _ _ w' hw'
theorem RT2.take1v {v' : Value} (hi : ops[i]? = some ⟨some d, op, ty, pos, af, none⟩) (hc : take1OK ops X listed i = true) (hd : Nat.blt d n = true) (hq : QO P W HS e op ty v) (hv : v = v')
    (h : RT2 P W n ops X HS HT Q fuel (listed.setIfInBounds i true) (put e d v') H) : RT2 P W n ops X HS HT Q (fuel + 1) listed e H := by subst hv; exact RT2.take1 hi hc hd hq h
/-- a reading of what stands throughout -/
theorem RT2.take2 (hi : ops[i]? = some ⟨some d, op, ty, pos, af, none⟩) (hc : take2OK ops X listed i = true) (hd : Nat.blt d n = true) (hq : QO P W HT e op ty v)
    (h : RT2 P W n ops X HS HT Q fuel (listed.setIfInBounds i true) (put e d v) H) : RT2 P W n ops X HS HT Q (fuel + 1) listed e H := by
  intro hs hS hT a w hrep ho
  simp only [take2OK, Bool.and_eq_true, Bool.not_eq_true'] at hc
  obtain ⟨⟨hx, hf⟩, hr⟩ := hc
  refine wpAny2_first (V := fun w => Own W w HT) (v := v) hx hi (Region.noSelect_spec hs) hQpanic fuel listed a w (.inl rfl) (Region.free_spec hi hf) (by simpa using hr) ?_ (ho.sub hT) (fun h => ho.sub (hS h)) (ho.sub hT) (h hs (fun hh => hS (noX_set hh)) hT _ _ (hrep.put (d := some d) hd v) ho)
  refine .inl ⟨rfl, fun w' hw' => ?_⟩
  rw [hrep.eval]
  exact hq _ _ _ _ w' hw'
theorem RT2.take2v {v' : Value} (hi : ops[i]? = some ⟨some d, op, ty, pos, af, none⟩) (hc : take2OK ops X listed i = true) (hd : Nat.blt d n = true) (hq : QO P W HT e op ty v) (hv : v = v')
    (h : RT2 P W n ops X HS HT Q fuel (listed.setIfInBounds i true) (put e d v') H) : RT2 P W n ops X HS HT Q (fuel + 1) listed e H := by subst hv; exact RT2.take2 hi hc hd hq h
/-- the only one that may come up, before X -/
theorem RT2.one {o : Oper} (hr : Region.ready .any ops listed = [i]) (hi : ops[i]? = some o)
    (h : RS P W n ops (fun e' H' => HS.Sublist H' ∧ HT.Sublist H' ∧ RT2 P W n ops X HS HT Q fuel (listed.setIfInBounds i true) e' H') [o] e H) :
    RT2 P W n ops X HS HT Q (fuel + 1) listed e H := by
  intro hs hS hT a w hrep ho
  refine ⟨fun h0 => (by rw [hr] at h0; cases h0), fun q hq => ?_⟩
  rw [hr] at hq
  obtain rfl : q = i := by simpa using hq
  exact wpOp_mono (fun a' w' ⟨e', H', h1, h2, h3, h4, h5⟩ => ⟨⟨fun _ => h2.sub h3, h2.sub h4⟩, h5 hs (fun _ => h3) h4 a' w' h1 h2⟩) (wpOp_of_RS hi h hrep ho)
/-- the only one that may come up, of X or behind it -/
theorem RT2.oneX {o : Oper} (hr : Region.ready .any ops listed = [i]) (hi : ops[i]? = some o) (hx : noX X (listed.setIfInBounds i true) = false)
    (h : RS P W n ops (fun e' H' => HT.Sublist H' ∧ RT2 P W n ops X HS HT Q fuel (listed.setIfInBounds i true) e' H') [o] e H) :
    RT2 P W n ops X HS HT Q (fuel + 1) listed e H := by
  intro hs hS hT a w hrep ho
  refine ⟨fun h0 => (by rw [hr] at h0; cases h0), fun q hq => ?_⟩
  rw [hr] at hq
  obtain rfl : q = i := by simpa using hq
  exact wpOp_mono (fun a' w' ⟨e', H', h1, h2, h4, h5⟩ => ⟨⟨fun h => (by rw [hx] at h; cases h), h2.sub h4⟩, h5 hs (fun h => (by rw [hx] at h; cases h)) h4 a' w' h1 h2⟩) (wpOp_of_RS hi h hrep ho)
theorem CS.draw2 {l : List Oper} {id : Nat} {Q : Exit → Env → HL → Prop} (X : List Nat) {HT : HL} (hT : HT.Sublist H) (hm : P.follows .mixedOrders = true) (hs : Region.noSelect l.toArray = true)
    (h : RT2 P W n l.toArray X H HT (fun e H => Q .normal e H) l.length (Array.replicate l.length false) e H) : CS P W n (.region id l.toArray true) Q e H := by
  intro a w hr ho
  refine wp_mono (Q := PostN W n (fun e H => Q .normal e H)) (wp_region_any hm ?_) fun x a' w' hq => ?_
  · have := h hs (fun _ => List.Sublist.refl _) hT a w.drew hr ho.drew
    exact wpAny_of_2 _ _ _ _ this
  · cases x <;> simp only [PostN] at hq
    exact hq
end
end Go.Proofs.Ytapcgokcfmklbaa

namespace Go.Proofs.Ytapcgokcfmklbaa

section
variable {α : Type}
/-- the values of the first n places -/
def lst (d : Nat → α) (n : Nat) : List α := (List.range n).map d
theorem lst_len (d : Nat → α) (n : Nat) : (lst d n).length = n := by simp [lst]
theorem lst_at (d : Nat → α) {n i : Nat} (h : i < n) : (lst d n)[i]? = some (d i) := by simp [lst, h]
def updD (d : Nat → α) (i : Nat) (v : α) : Nat → α := fun k => if k = i then v else d k
theorem lst_set (d : Nat → α) {n i : Nat} (v : α) (h : i < n) : (lst d n).set i v = lst (updD d i v) n := by
  apply List.ext_getElem?
  intro k
  rw [List.getElem?_set]
  by_cases hk : k < n
  · rw [lst_at _ hk, lst_at _ hk]
    unfold updD
    by_cases e : i = k
    · subst e; rw [if_pos rfl, if_pos rfl, if_pos (by rw [lst_len]; exact h)]
    · rw [if_neg e, if_neg (Ne.symm e)]
  · rw [List.getElem?_eq_none (by rw [lst_len]; omega), List.getElem?_eq_none (by rw [lst_len]; omega), if_neg (by omega)]
/-- two places change their values -/
def swD (d : Nat → α) (i j : Nat) : Nat → α := fun k => if k = i then d j else if k = j then d i else d k
theorem swD_upd (d : Nat → α) (i j : Nat) : updD (updD d i (d j)) j (d i) = swD d i j := by
  funext k
  unfold updD swD
  by_cases h1 : k = j
  · rw [if_pos h1]
    by_cases h2 : k = i
    · rw [if_pos h2]
      have : i = j := by omega
      rw [this]
    · rw [if_neg h2, if_pos h1]
  · rw [if_neg h1]
    by_cases h2 : k = i
    · rw [if_pos h2, if_pos h2]
    · rw [if_neg h2, if_neg h2, if_neg h1]
/-- what stands in the places from a to b has moved among them -/
def Mv (n a b : Nat) (d d' : Nat → α) : Prop :=
  (∀ i, i < a ∨ b ≤ i → d' i = d i) ∧ (∀ i, a ≤ i → i < b → ∃ j, a ≤ j ∧ j < b ∧ d' i = d j) ∧ (lst d' n).Perm (lst d n)
theorem Mv.refl (n a b : Nat) (d : Nat → α) : Mv n a b d d := ⟨fun _ _ => rfl, fun i h1 h2 => ⟨i, h1, h2, rfl⟩, .refl _⟩
theorem Mv.trans {n a b : Nat} {d d' d'' : Nat → α} (h : Mv n a b d d') (k : Mv n a b d' d'') : Mv n a b d d'' := by
  refine ⟨fun i hi => (k.1 i hi).trans (h.1 i hi), fun i h1 h2 => ?_, k.2.2.trans h.2.2⟩
  obtain ⟨j, h3, h4, h5⟩ := k.2.1 i h1 h2
  obtain ⟨l, h6, h7, h8⟩ := h.2.1 j h3 h4
  exact ⟨l, h6, h7, h5.trans h8⟩
theorem Mv.mono {n a b a' b' : Nat} {d d' : Nat → α} (h : Mv n a b d d') (ha : a' ≤ a) (hb : b ≤ b') : Mv n a' b' d d' := by
  refine ⟨fun i hi => h.1 i (by omega), fun i h1 h2 => ?_, h.2.2⟩
  by_cases hi : a ≤ i ∧ i < b
  · obtain ⟨j, h3, h4, h5⟩ := h.2.1 i hi.1 hi.2
    exact ⟨j, by omega, by omega, h5⟩
  · exact ⟨i, h1, h2, h.1 i (by omega)⟩
theorem Mv.sw {n a b i j : Nat} (d : Nat → α) (hi : a ≤ i ∧ i < b) (hj : a ≤ j ∧ j < b) (hb : b ≤ n) : Mv n a b d (swD d i j) := by
  refine ⟨fun k hk => ?_, fun k h1 h2 => ?_, ?_⟩
  · unfold swD; rw [if_neg (by omega), if_neg (by omega)]
  · unfold swD
    by_cases e : k = i
    · rw [if_pos e]; exact ⟨j, hj.1, hj.2, rfl⟩
    · rw [if_neg e]
      by_cases e2 : k = j
      · rw [if_pos e2]; exact ⟨i, hi.1, hi.2, rfl⟩
      · rw [if_neg e2]; exact ⟨k, h1, h2, rfl⟩
  · have h1 : i < (lst d n).length := by rw [lst_len]; omega
    have h2 : j < (lst d n).length := by rw [lst_len]; omega
    have h3 := List.set_set_perm h1 h2
    have e1 : (lst d n)[i] = d i := by simp [lst]
    have e2 : (lst d n)[j] = d j := by simp [lst]
    rw [e1, e2, lst_set d _ (by omega), lst_set _ _ (by omega), swD_upd] at h3
    exact h3
/-! ### order -/
/-- an order in which two values may stand alike -/
structure Ord (lt : α → α → Bool) : Prop where
  trans : ∀ x y z, lt y x = false → lt z y = false → lt z x = false
  asym : ∀ x y, lt x y = true → lt y x = false
def So (lt : α → α → Bool) (a b : Nat) (d : Nat → α) : Prop := ∀ i j, a ≤ i → i < j → j < b → lt (d j) (d i) = false
variable {lt : α → α → Bool}
theorem So.mono {a b a' b' : Nat} {d : Nat → α} (h : So lt a b d) (ha : a ≤ a') (hb : b' ≤ b) : So lt a' b' d := fun i j h1 h2 h3 => h i j (by omega) h2 (by omega)
theorem So.one {a b : Nat} {d : Nat → α} (h : b ≤ a + 1) : So lt a b d := fun i j h1 h2 h3 => by omega
theorem So.same {a b : Nat} {d d' : Nat → α} (h : So lt a b d) (e : ∀ i, a ≤ i → i < b → d' i = d i) : So lt a b d' := fun i j h1 h2 h3 => by
  rw [e i h1 (by omega), e j (by omega) h3]; exact h i j h1 h2 h3
/-- parts in order, one below the other -/
theorem So.join {a m b : Nat} {d : Nat → α} (h1 : So lt a m d) (h2 : So lt m b d) (h3 : ∀ i j, a ≤ i → i < m → m ≤ j → j < b → lt (d j) (d i) = false) : So lt a b d := fun i j h4 h5 h6 => by
  by_cases e1 : j < m
  · exact h1 i j h4 h5 e1
  · by_cases e2 : i < m
    · exact h3 i j h4 e2 (by omega) h6
    · exact h2 i j (by omega) h5 h6
/-- in order but for the value at j -/
def SoX (lt : α → α → Bool) (a b j : Nat) (d : Nat → α) : Prop := ∀ p q, a ≤ p → p < q → q < b → q ≠ j → lt (d q) (d p) = false
theorem SoX.start {a i : Nat} {d : Nat → α} (h : So lt a i d) : SoX lt a (i + 1) i d := fun p q h1 h2 h3 h4 => h p q h1 h2 (by omega)
theorem SoX.step {a b j : Nat} {d : Nat → α} (ho : Ord lt) (h : SoX lt a b j d) (hj : a < j) (hb : j < b) (hl : lt (d j) (d (j - 1)) = true) : SoX lt a b (j - 1) (swD d j (j - 1)) := fun p q h1 h2 h3 h4 => by
  have ha := ho.asym _ _ hl
  unfold swD
  by_cases e1 : q = j
  · rw [if_pos e1]
    by_cases e2 : p = j - 1
    · rw [if_neg (by omega), if_pos e2]; exact ha
    · rw [if_neg (by omega), if_neg e2]; exact h p (j - 1) h1 (by omega) (by omega) (by omega)
  · rw [if_neg e1, if_neg h4]
    by_cases e2 : p = j
    · rw [if_pos e2]; exact h (j - 1) q (by omega) (by omega) h3 e1
    · rw [if_neg e2]
      by_cases e3 : p = j - 1
      · rw [if_pos e3]; exact h j q (by omega) (by omega) h3 e1
      · rw [if_neg e3]; exact h p q h1 h2 h3 e1
theorem SoX.done {a b j : Nat} {d : Nat → α} (ho : Ord lt) (h : SoX lt a b j d) (hx : j ≤ a ∨ lt (d j) (d (j - 1)) = false) : So lt a b d := fun p q h1 h2 h3 => by
  by_cases e : q = j
  · subst e
    rcases hx with hx | hx
    · omega
    · by_cases e2 : p = q - 1
      · rw [e2]; exact hx
      · exact ho.trans _ _ _ (h p (q - 1) h1 (by omega) (by omega) (by omega)) hx
  · exact h p q h1 h2 h3 e
/-! ### turning about -/
/-- n values from a on and n from b on change places -/
def swR (d : Nat → α) (a b n : Nat) : Nat → α := fun p => if a ≤ p ∧ p < a + n then d (p - a + b) else if b ≤ p ∧ p < b + n then d (p - b + a) else d p
theorem swR_0 (d : Nat → α) (a b : Nat) : swR d a b 0 = d := by
  funext p
  unfold swR
  rw [if_neg (by omega), if_neg (by omega)]
theorem swR_succ (d : Nat → α) {a b t : Nat} (h : a + t < b) : swD (swR d a b t) (a + t) (b + t) = swR d a b (t + 1) := by
  funext p
  unfold swD swR
  by_cases e1 : p = a + t
  · rw [if_pos e1, if_neg (by omega), if_neg (by omega), if_pos (by omega)]
    congr 1; omega
  · rw [if_neg e1]
    by_cases e2 : p = b + t
    · rw [if_pos e2, if_neg (by omega), if_neg (by omega), if_neg (by omega), if_pos (by omega)]
      congr 1; omega
    · rw [if_neg e2]
      by_cases e3 : a ≤ p ∧ p < a + t
      · rw [if_pos e3, if_pos (by omega)]
      · rw [if_neg e3, if_neg (show ¬ (a ≤ p ∧ p < a + (t + 1)) by omega)]
        by_cases e4 : b ≤ p ∧ p < b + t
        · rw [if_pos e4, if_pos (by omega)]
        · rw [if_neg e4, if_neg (by omega)]
theorem swR_mv (n : Nat) (d : Nat → α) {a b lo hi : Nat} : ∀ t, a + t ≤ b → lo ≤ a → b + t ≤ hi → hi ≤ n → Mv n lo hi d (swR d a b t)
  | 0, _, _, _, _ => by rw [swR_0]; exact Mv.refl _ _ _ _
  | t + 1, h1, h2, h3, h4 => by
    rw [← swR_succ d (by omega)]
    exact (swR_mv n d t (by omega) h2 (by omega) h4).trans (Mv.sw _ (by omega) (by omega) h4)
/-- the values from a to m behind those from m to b -/
def rotD (d : Nat → α) (a m b : Nat) : Nat → α := fun p => if a ≤ p ∧ p < a + (b - m) then d (p + (m - a)) else if a + (b - m) ≤ p ∧ p < b then d (p - (b - m)) else d p
theorem rot_eq (d : Nat → α) {m i : Nat} (h : i ≤ m) : swR d (m - i) m i = rotD d (m - i) m (m + i) := by
  funext p
  unfold swR rotD
  by_cases e1 : m - i ≤ p ∧ p < m - i + i
  · rw [if_pos e1, if_pos (by omega)]; congr 1; omega
  · rw [if_neg e1, if_neg (show ¬ (m - i ≤ p ∧ p < m - i + (m + i - m)) by omega)]
    by_cases e2 : m ≤ p ∧ p < m + i
    · rw [if_pos e2, if_pos (by omega)]; congr 1; omega
    · rw [if_neg e2, if_neg (by omega)]
theorem rot_gt (d : Nat → α) {m i j : Nat} (hi : i ≤ m) (hj : j < i) : rotD (swR d (m - i) m j) (m - (i - j)) m (m + j) = rotD d (m - i) m (m + j) := by
  funext p
  unfold rotD
  by_cases e1 : m - (i - j) ≤ p ∧ p < m - (i - j) + (m + j - m)
  · rw [if_pos e1]
    unfold swR
    rw [if_neg (by omega), if_pos (by omega), if_neg (by omega), if_pos (by omega)]
    congr 1; omega
  · rw [if_neg e1]
    by_cases e2 : m - (i - j) + (m + j - m) ≤ p ∧ p < m + j
    · rw [if_pos e2]
      unfold swR
      rw [if_neg (by omega), if_neg (by omega), if_neg (by omega), if_pos (by omega)]
    · rw [if_neg e2]
      unfold swR
      by_cases e3 : m - i ≤ p ∧ p < m - i + j
      · rw [if_pos e3, if_pos (by omega)]; congr 1; omega
      · rw [if_neg e3, if_neg (by omega), if_neg (by omega), if_neg (by omega)]
theorem rot_lt (d : Nat → α) {m i j : Nat} (hi : i ≤ m) (hj : i < j) : rotD (swR d (m - i) (m + j - i) i) (m - i) m (m + (j - i)) = rotD d (m - i) m (m + j) := by
  funext p
  unfold rotD
  by_cases e1 : m - i ≤ p ∧ p < m - i + (m + (j - i) - m)
  · rw [if_pos e1, if_pos (by omega)]
    unfold swR
    rw [if_neg (by omega), if_neg (by omega)]
  · rw [if_neg e1]
    by_cases e2 : m - i + (m + (j - i) - m) ≤ p ∧ p < m + (j - i)
    · rw [if_pos e2]
      by_cases e3 : p < m - i + j
      · rw [if_pos (by omega)]
        unfold swR
        by_cases e4 : m - i ≤ p - (m + (j - i) - m) ∧ p - (m + (j - i) - m) < m - i + i
        · rw [if_pos e4]; congr 1; omega
        · exfalso; omega
      · exfalso; omega
    · rw [if_neg e2]
      unfold swR
      by_cases e3 : m + j - i ≤ p ∧ p < m + j - i + i
      · rw [if_neg (by omega), if_pos e3, if_neg (by omega), if_pos (by omega)]; congr 1; omega
      · rw [if_neg (by omega), if_neg e3, if_neg (by omega), if_neg (by omega)]
/-! ### merging -/
theorem rot_so {a s m e b c : Nat} {d : Nat → α} (ho : Ord lt) (h1 : So lt a m d) (h2 : So lt m b d) (hs : a ≤ s ∧ s ≤ m) (he : m ≤ e ∧ e ≤ b) (hc : c = s + (e - m))
    (hA : a < s → e < b → lt (d e) (d (s - 1)) = false) (hB : s < m → m < e → lt (d s) (d (e - 1)) = false) :
    So lt a s (rotD d s m e) ∧ So lt s c (rotD d s m e) ∧ So lt c e (rotD d s m e) ∧ So lt e b (rotD d s m e) ∧
      ∀ i j, a ≤ i → i < c → c ≤ j → j < b → lt (rotD d s m e j) (rotD d s m e i) = false := by
  subst hc
  have g1 : ∀ p, p < s → rotD d s m e p = d p := fun p hp => by unfold rotD; rw [if_neg (by omega), if_neg (by omega)]
  have g2 : ∀ p, s ≤ p → p < s + (e - m) → rotD d s m e p = d (p + (m - s)) := fun p hp hq => by unfold rotD; rw [if_pos ⟨hp, hq⟩]
  have g3 : ∀ p, s + (e - m) ≤ p → p < e → rotD d s m e p = d (p - (e - m)) := fun p hp hq => by unfold rotD; rw [if_neg (by omega), if_pos ⟨hp, hq⟩]
  have g4 : ∀ p, e ≤ p → rotD d s m e p = d p := fun p hp => by unfold rotD; rw [if_neg (by omega), if_neg (by omega)]
  have rf : ∀ x : α, lt x x = false := fun x => by
    cases hx : lt x x
    · rfl
    · exact (ho.asym _ _ hx).symm.trans hx |>.symm ▸ rfl
  -- within a part, also a value beside itself
  have le1 : ∀ p q, a ≤ p → p ≤ q → q < m → lt (d q) (d p) = false := fun p q hp hq hm => by
    by_cases x : p = q
    · rw [x]; exact rf _
    · exact h1 p q hp (by omega) hm
  have le2 : ∀ p q, m ≤ p → p ≤ q → q < b → lt (d q) (d p) = false := fun p q hp hq hm => by
    by_cases x : p = q
    · rw [x]; exact rf _
    · exact h2 p q hp (by omega) hm
  refine ⟨?_, ?_, ?_, ?_, ?_⟩
  · exact (h1.mono (Nat.le_refl _) hs.2).same fun i _ hi => g1 i hi
  · intro i j k1 k2 k3
    rw [g2 i k1 (by omega), g2 j (by omega) k3]
    exact h2 _ _ (by omega) (by omega) (by omega)
  · intro i j k1 k2 k3
    rw [g3 i k1 (by omega), g3 j (by omega) k3]
    exact h1 _ _ (by omega) (by omega) (by omega)
  · exact (h2.mono he.1 (Nat.le_refl _)).same fun i hi _ => g4 i hi
  · intro i j k1 k2 k3 k4
    by_cases x1 : i < s
    · rw [g1 i x1]
      by_cases y1 : j < e
      · rw [g3 j k3 y1]; exact le1 _ _ k1 (by omega) (by omega)
      · rw [g4 j (by omega)]
        exact ho.trans _ _ _ (ho.trans _ _ _ (le1 i (s - 1) k1 (by omega) (by omega)) (hA (by omega) (by omega))) (le2 e j he.1 (by omega) k4)
    · rw [g2 i (by omega) k2]
      by_cases y1 : j < e
      · rw [g3 j k3 y1]
        exact ho.trans _ _ _ (ho.trans _ _ _ (le2 (i + (m - s)) (e - 1) (by omega) (by omega) (by omega)) (hB (by omega) (by omega))) (le1 s (j - (e - m)) hs.1 (by omega) (by omega))
      · rw [g4 j (by omega)]; exact le2 _ _ (by omega) (by omega) k4
/-- what moved within a part keeps what was said of all its values -/
theorem Mv.all {n a b : Nat} {d d' : Nat → α} (h : Mv n a b d d') {P : α → Prop} (hp : ∀ i, a ≤ i → i < b → P (d i)) : ∀ i, a ≤ i → i < b → P (d' i) := fun i h1 h2 => by
  obtain ⟨j, h3, h4, h5⟩ := h.2.1 i h1 h2
  rw [h5]; exact hp j h3 h4
theorem So.cross {n a c b : Nat} {d d1 d2 : Nat → α} (hx : ∀ i j, a ≤ i → i < c → c ≤ j → j < b → lt (d j) (d i) = false) (m1 : Mv n a c d d1) (m2 : Mv n c b d1 d2) :
    ∀ i j, a ≤ i → i < c → c ≤ j → j < b → lt (d2 j) (d2 i) = false := fun i j h1 h2 h3 h4 => by
  rw [m2.1 i (.inl h2)]
  obtain ⟨k, h5, h6, h7⟩ := m2.2.1 j h3 h4
  obtain ⟨l, h8, h9, h10⟩ := m1.2.1 i h1 h2
  rw [h7, h10, m1.1 k (.inr h5)]
  exact hx l k h8 h9 h5 h6
/-- in order, the same values: the same row -/
theorem So.eq {n : Nat} {d d' : Nat → α} (ha : ∀ x y, lt x y = false → lt y x = false → x = y) (h : So lt 0 n d) (h' : So lt 0 n d') (hp : (lst d n).Perm (lst d' n)) : lst d n = lst d' n := by
  have pw : ∀ {f : Nat → α}, So lt 0 n f → (lst f n).Pairwise (fun x y => lt y x = false) := fun {f} hf => by
    unfold lst
    rw [List.pairwise_map]
    refine List.Pairwise.imp_of_mem ?_ List.pairwise_lt_range
    intro i j hi hj hij
    exact hf i j (Nat.zero_le _) hij (List.mem_range.1 hj)
  exact List.Perm.eq_of_pairwise (fun x y _ _ h1 h2 => ha x y h2 h1) (pw h) (pw h') hp
end
end Go.Proofs.Ytapcgokcfmklbaa

namespace Go.Proofs.Ytapcgokcfmklbaa
section
variable {α : Type} {lt : α → α → Bool}
theorem rot_triv (d : Nat → α) {s m e : Nat} (hs : s ≤ m) (he : m ≤ e) (h : s = m ∨ e = m) : rotD d s m e = d := by
  funext p
  unfold rotD
  by_cases e1 : s ≤ p ∧ p < s + (e - m)
  · rw [if_pos e1]; congr 1; omega
  · rw [if_neg e1]
    by_cases e2 : s + (e - m) ≤ p ∧ p < e
    · rw [if_pos e2]; congr 1; omega
    · rw [if_neg e2]
theorem rot_up (d : Nat → α) (a k : Nat) (h : a ≤ k) : swD (rotD d a (a + 1) (k + 1)) k (k + 1) = rotD d a (a + 1) (k + 2) := by
  funext p
  unfold swD
  by_cases e1 : p = k
  · rw [if_pos e1]
    unfold rotD
    rw [if_neg (by omega), if_neg (by omega), if_pos (by omega)]
    congr 1; omega
  · rw [if_neg e1]
    by_cases e2 : p = k + 1
    · rw [if_pos e2]
      unfold rotD
      rw [if_neg (by omega), if_pos (by omega), if_neg (by omega), if_pos (by omega)]
      congr 1; omega
    · rw [if_neg e2]
      unfold rotD
      by_cases e3 : a ≤ p ∧ p < a + (k + 1 - (a + 1))
      · rw [if_pos e3, if_pos (by omega)]
      · rw [if_neg e3, if_neg (by omega), if_neg (by omega), if_neg (by omega)]
theorem rot_dn (d : Nat → α) (m k : Nat) (h : k + 1 ≤ m) : swD (rotD d (k + 1) m (m + 1)) (k + 1) k = rotD d k m (m + 1) := by
  funext p
  unfold swD
  by_cases e1 : p = k + 1
  · rw [if_pos e1]
    unfold rotD
    rw [if_neg (by omega), if_neg (by omega), if_neg (by omega), if_pos (by omega)]
    congr 1; omega
  · rw [if_neg e1]
    by_cases e2 : p = k
    · rw [if_pos e2]
      unfold rotD
      rw [if_pos (by omega), if_pos (by omega)]
      congr 1; omega
    · rw [if_neg e2]
      unfold rotD
      by_cases e3 : k + 1 + (m + 1 - m) ≤ p ∧ p < m + 1
      · rw [if_neg (by omega), if_pos e3, if_neg (by omega), if_pos (by omega)]
      · rw [if_neg (by omega), if_neg e3, if_neg (by omega), if_neg (by omega)]
theorem rot_mv (n m : Nat) : ∀ (k i j : Nat) (d : Nat → α), i + j ≤ k → 1 ≤ i → 1 ≤ j → i ≤ m → m + j ≤ n → Mv n (m - i) (m + j) d (rotD d (m - i) m (m + j))
  | 0, i, j, d, h, h1, _, _, _ => by omega
  | k + 1, i, j, d, h, h1, h2, h3, h4 => by
    rcases Nat.lt_trichotomy i j with e | e | e
    · rw [← rot_lt d h3 e]
      exact (swR_mv n d i (by omega) (Nat.le_refl _) (by omega) h4).trans ((rot_mv n m k i (j - i) _ (by omega) h1 (by omega) h3 (by omega)).mono (Nat.le_refl _) (by omega))
    · subst e
      rw [← rot_eq d h3]
      exact swR_mv n d i (by omega) (Nat.le_refl _) (Nat.le_refl _) h4
    · rw [← rot_gt d h3 e]
      exact (swR_mv n d j (by omega) (Nat.le_refl _) (Nat.le_refl _) h4).trans ((rot_mv n m k (i - j) j _ (by omega) (by omega) h2 (by omega) h4).mono (by omega) (Nat.le_refl _))
theorem rotM {n a s m e b : Nat} (d : Nat → α) (h1 : a ≤ s) (h2 : s ≤ m) (h3 : m ≤ e) (h4 : e ≤ b) (h5 : b ≤ n) : Mv n a b d (rotD d s m e) := by
  by_cases h : s = m ∨ e = m
  · rw [rot_triv d h2 h3 h]; exact Mv.refl _ _ _ _
  · have := rot_mv n m (m - s + (e - m)) (m - s) (e - m) d (Nat.le_refl _) (by omega) (by omega) (by omega) (by omega)
    rw [show m - (m - s) = s by omega, show m + (e - m) = e by omega] at this
    exact this.mono h1 h4
theorem Ord.refl (ho : Ord lt) (x : α) : lt x x = false := by
  cases hx : lt x x
  · rfl
  · have := ho.asym _ _ hx
    rw [hx] at this
    exact this
/-- one value put into its place among those behind it -/
theorem mergeA {a m b i : Nat} {d : Nat → α} (ho : Ord lt) (hm : m = a + 1) (h2 : So lt m b d) (hi : m ≤ i ∧ i ≤ b) (h3 : m < i → lt (d (i - 1)) (d a) = true) (h4 : i < b → lt (d i) (d a) = false) : So lt a b (rotD d a m i) := by
  subst hm
  have g2 : ∀ p, a ≤ p → p + 1 < i → rotD d a (a + 1) i p = d (p + 1) := fun p hp hq => by
    unfold rotD; rw [if_pos (by omega)]; congr 1; omega
  have g3 : rotD d a (a + 1) i (i - 1) = d a := by
    unfold rotD; rw [if_neg (by omega), if_pos (by omega)]; congr 1; omega
  have g4 : ∀ p, i ≤ p → rotD d a (a + 1) i p = d p := fun p hp => by unfold rotD; rw [if_neg (by omega), if_neg (by omega)]
  have up : ∀ q, i ≤ q → q < b → lt (d q) (d a) = false := fun q hq hb => by
    by_cases e : q = i
    · rw [e]; exact h4 (by omega)
    · exact ho.trans _ _ _ (h4 (by omega)) (h2 i q hi.1 (by omega) hb)
  have dn : ∀ q, a + 1 ≤ q → q < i → lt (d a) (d q) = false := fun q hq hb => by
    have h5 := ho.asym _ _ (h3 (by omega))
    by_cases e : q = i - 1
    · rw [e]; exact h5
    · exact ho.trans _ _ _ (h2 q (i - 1) hq (by omega) (by omega)) h5
  intro p q hp hpq hq
  by_cases e1 : p + 1 < i
  · rw [g2 p hp e1]
    by_cases e2 : q + 1 < i
    · rw [g2 q (by omega) e2]; exact h2 _ _ (by omega) (by omega) (by omega)
    · by_cases e3 : q = i - 1
      · rw [e3, g3]; exact dn _ (by omega) (by omega)
      · rw [g4 q (by omega)]; exact h2 _ _ (by omega) (by omega) hq
  · by_cases e2 : p = i - 1
    · rw [e2, g3, g4 q (by omega)]; exact up q (by omega) hq
    · rw [g4 p (by omega), g4 q (by omega)]; exact h2 p q (by omega) hpq hq
/-- one value put into its place among those ahead of it -/
theorem mergeB {a m b i : Nat} {d : Nat → α} (ho : Ord lt) (hm : b = m + 1) (h1 : So lt a m d) (hi : a ≤ i ∧ i ≤ m) (h3 : a < i → lt (d m) (d (i - 1)) = false) (h4 : i < m → lt (d m) (d i) = true) : So lt a b (rotD d i m b) := by
  subst hm
  have g1 : ∀ p, p < i → rotD d i m (m + 1) p = d p := fun p hp => by unfold rotD; rw [if_neg (by omega), if_neg (by omega)]
  have g2 : rotD d i m (m + 1) i = d m := by
    unfold rotD; rw [if_pos (by omega)]; congr 1; omega
  have g3 : ∀ p, i < p → p ≤ m → rotD d i m (m + 1) p = d (p - 1) := fun p hp hq => by
    unfold rotD; rw [if_neg (by omega), if_pos (by omega)]; congr 1; omega
  have dn : ∀ q, a ≤ q → q < i → lt (d m) (d q) = false := fun q hq hb => by
    by_cases e : q = i - 1
    · rw [e]; exact h3 (by omega)
    · exact ho.trans _ _ _ (h1 q (i - 1) hq (by omega) (by omega)) (h3 (by omega))
  have up : ∀ q, i ≤ q → q < m → lt (d q) (d m) = false := fun q hq hb => by
    have h5 := ho.asym _ _ (h4 (by omega))
    by_cases e : q = i
    · rw [e]; exact h5
    · exact ho.trans _ _ _ h5 (h1 i q hi.1 (by omega) hb)
  intro p q hp hpq hq
  by_cases e1 : p < i
  · rw [g1 p e1]
    by_cases e2 : q < i
    · rw [g1 q e2]; exact h1 p q hp hpq (by omega)
    · by_cases e3 : q = i
      · rw [e3, g2]; exact dn p hp e1
      · rw [g3 q (by omega) (by omega)]; exact h1 p (q - 1) hp (by omega) (by omega)
  · by_cases e2 : p = i
    · rw [e2, g2, g3 q (by omega) (by omega)]; exact up (q - 1) (by omega) (by omega)
    · rw [g3 p (by omega) (by omega), g3 q (by omega) (by omega)]; exact h1 (p - 1) (q - 1) (by omega) (by omega) (by omega)
/-- what a merge comes to, when both halves are merged -/
theorem mergeC {n a s m e b c : Nat} {d d2 d3 : Nat → α} (ho : Ord lt) (h1 : So lt a m d) (h2 : So lt m b d) (hs : a ≤ s ∧ s ≤ m) (he : m ≤ e ∧ e ≤ b) (hc : c = s + (e - m))
    (hA : a < s → e < b → lt (d e) (d (s - 1)) = false) (hB : s < m → m < e → lt (d s) (d (e - 1)) = false)
    (m1 : Mv n a c (rotD d s m e) d2) (s1 : So lt a c d2) (m2 : Mv n c b d2 d3) (s2 : So lt c b d3) : So lt a b d3 := by
  have h := (rot_so ho h1 h2 hs he hc hA hB).2.2.2.2
  refine So.join (m := c) (s1.same fun i _ hi => m2.1 i (.inl hi)) s2 (So.cross h m1 m2)
/-- blocks in order -/
def Bs (lt : α → α → Bool) (bs n : Nat) (d : Nat → α) : Prop := ∀ q, So lt (q * bs) (min ((q + 1) * bs) n) d
theorem Bs.done {bs n : Nat} {d : Nat → α} (h : Bs lt bs n d) (hb : n ≤ bs) : So lt 0 n d := by
  have := h 0
  rw [Nat.zero_mul, Nat.zero_add, Nat.one_mul, Nat.min_eq_right hb] at this
  exact this
/-- the blocks ahead of q in order, in blocks of bs -/
def Bq (lt : α → α → Bool) (bs q : Nat) (d : Nat → α) : Prop := ∀ p, p < q → So lt (p * bs) ((p + 1) * bs) d
theorem Bq.zero (lt : α → α → Bool) (bs : Nat) (d : Nat → α) : Bq lt bs 0 d := fun p hp => absurd hp (Nat.not_lt_zero _)
theorem Bq.succ {n bs q b : Nat} {d d' : Nat → α} (h : Bq lt bs q d) (m : Mv n (q * bs) b d d') (s : So lt (q * bs) ((q + 1) * bs) d') : Bq lt bs (q + 1) d' := fun p hp => by
  by_cases e : p = q
  · rw [e]; exact s
  · have h1 : (p + 1) * bs ≤ q * bs := Nat.mul_le_mul_right _ (by omega)
    exact (h p (by omega)).same fun i _ hi => m.1 i (.inl (by omega))
theorem Bq.last {n bs q : Nat} {d d' : Nat → α} (h : Bq lt bs q d) (m : Mv n (q * bs) n d d') (s : So lt (q * bs) n d') (hq : n ≤ (q + 1) * bs) : Bs lt bs n d' := fun p => by
  rcases Nat.lt_trichotomy p q with e | e | e
  · have h1 : (p + 1) * bs ≤ q * bs := Nat.mul_le_mul_right _ (by omega)
    exact ((h p e).same fun i _ hi => m.1 i (.inl (by omega))).mono (Nat.le_refl _) (Nat.min_le_left _ _)
  · rw [e]; exact s.mono (Nat.le_refl _) (Nat.min_le_right _ _)
  · have h1 : (q + 1) * bs ≤ p * bs := Nat.mul_le_mul_right _ (by omega)
    exact So.one (by have := Nat.min_le_right ((p + 1) * bs) n; omega)
end
end Go.Proofs.Ytapcgokcfmklbaa
