/-
  Part 2 of what the proof leans on (C1, C2, Eq, Pix, C3, C4, C5, C6, C8, Tile, C10, Mut, Cut, C12). Conditions: as each theorem says.
-/
import Derived.Test.YtapcgokcfmklbaaV1
import Derived.Test.YtapcgokcfmklbaaRows
import Derived.Laws.StructEq
namespace Go.Proofs.Ytapcgokcfmklbaa
open Go Go.Proofs Go.RowKit

theorem ty3 : tyChk Try.prog 3 = some ([.int .i64 0], false, 8) := by kernel_rfl
theorem fo23_0 : fldOff Try.prog 23 0 = some (0, 3) := by kernel_rfl
theorem fo23_1 : fldOff Try.prog 23 1 = some (1, 3) := by kernel_rfl
theorem fo23_2 : fldOff Try.prog 23 2 = some (2, 3) := by kernel_rfl
theorem fo23_3 : fldOff Try.prog 23 3 = some (3, 3) := by kernel_rfl
theorem ok43 : callOK Try.prog 43 = true := by kernel_rfl
theorem ok57 : callOK Try.prog 57 = true := by kernel_rfl
theorem ok132 : callOK Try.prog 132 = true := by kernel_rfl
theorem ext113 (n : Int) (w : World) : (callFunc 113 [Value.int .u32 n].toArray).run Try.prog w = .ok (.value (.float .f32 n.toNat)) w := by kernel_rfl
theorem ext63 (n : Nat) (w : World) : (callFunc 63 [flt n].toArray).run Try.prog w = .ok (.value (.int .u32 n)) w := by kernel_rfl

set_option maxRecDepth 100000 in
theorem clean (v : Nat) (W : World) : Fn_ Try.prog 57 #[flt v] W (fun v_ H => v_ = flt (cl v) ∧ H = []) := by
  refine Fn_.intro Try.func57 rfl rfl (by rfl) ?_
  refine CS.seq ?_
  refine CS.region ?_
  refine RS.q rfl (QO.assign) ?_
  refine RS.nil ?_
  refine thenC_n ?_
  refine CS.seq ?_
  refine CS.seq ?_
  refine CS.region ?_
  refine RS.q rfl (QO.move) ?_
  refine RS.q rfl (QO.move) ?_
  refine RS.q rfl (QO.fcmp32 (by rfl) (by rfl) (by simp)) ?_
  refine RS.nil ?_
  refine thenC_n ?_
  refine CS.cond (by rfl) (fun hb0 => ?_) (fun hb0 => ?_)
  · refine CS.seq ?_
    refine CS.region ?_
    refine RS.q rfl (QO.ext (by rfl) (ext113 _)) ?_
    refine RS.q rfl (QO.assign) ?_
    refine RS.nil ?_
    refine thenC_n ?_
    refine CS.ret ?_
    refine thenC_r ?_
    refine retQ.mk (H' := []) (.inr rfl) (RVs.tmp (by rfl) RVs.nil) (List.nil_sublist _) ?_
    exact ⟨congrArg flt (cl_nan ((fneq_self _).symm.trans hb0)).symm, rfl⟩
  · refine CS.skip ?_
    refine thenC_n ?_
    refine CS.seq ?_
    refine CS.region ?_
    refine RS.q rfl (QO.move) ?_
    refine RS.q rfl (QO.assign) ?_
    refine RS.nil ?_
    refine thenC_n ?_
    refine CS.ret ?_
    refine retQ.mk (H' := []) (.inr rfl) (RVs.tmp (by rfl) RVs.nil) (List.nil_sublist _) ?_
    exact ⟨congrArg flt (cl_num ((fneq_self _).symm.trans hb0)).symm, rfl⟩

set_option maxRecDepth 100000 in
theorem bits (x : Nat) (W : World) : Fn_ Try.prog 43 #[flt x] W (fun v H => v = .int .u32 (cl x : Nat) ∧ H = []) := by
  refine Fn_.intro Try.func43 rfl rfl (by rfl) ?_
  refine CS.seq ?_
  refine CS.region ?_
  refine RS.q rfl (QO.assign) ?_
  refine RS.nil ?_
  refine thenC_n ?_
  refine CS.seq ?_
  refine CS.region ?_
  refine RS.q rfl (QO.move) ?_
  refine RS.call rfl (by rfl) ok57 (by rfl) (fun w ho => clean _ _) ?_
  rintro _ _ ⟨rfl, rfl⟩
  refine RS.q rfl (QO.ext (by rfl) (ext63 _)) ?_
  refine RS.q rfl (QO.assign) ?_
  refine RS.nil ?_
  refine thenC_n ?_
  refine CS.ret ?_
  refine retQ.mk (H' := []) (.inr rfl) (RVs.tmp (by rfl) RVs.nil) (List.nil_sublist _) ?_
  exact ⟨rfl, rfl⟩

def outR (x s : Int) : Bool := decide (x < -1048576) || decide (1048576 - s < x)
def regErr (x y w h : Int) : Int :=
  if w < 1 ∨ 256 < w ∨ h < 1 ∨ 256 < h then 3 else if 16384 < w * h then 4 else if outR x w = true ∨ outR y h = true then 5 else 0
theorem regErr_ok {x y w h : Int} (e : regErr x y w h = 0) : 1 ≤ w ∧ w ≤ 256 ∧ 1 ≤ h ∧ h ≤ 256 ∧ 1 ≤ w * h ∧ w * h ≤ 16384 ∧ 4 * w * h = 4 * (w * h) ∧ -1048576 ≤ x ∧ x + w ≤ 1048576 ∧ -1048576 ≤ y ∧ y + h ≤ 1048576 := by
  unfold regErr at e
  split at e
  · cases e
  · split at e
    · cases e
    · split at e
      · cases e
      · rename_i h1 h2 h3
        have h4 : 1 * 1 ≤ w * h := Int.mul_le_mul (by omega) (by omega) (by omega) (by omega)
        have h5 : 4 * w * h = 4 * (w * h) := Int.mul_assoc ..
        simp only [outR, not_or, Bool.or_eq_true, decide_eq_true_eq] at h3
        omega
theorem mul_small {w h : Int} (h1 : ¬ w < 1) (h2 : ¬ 256 < w) (h3 : ¬ h < 1) (h4 : ¬ 256 < h) : 1 ≤ w * h ∧ w * h ≤ 65536 := by
  have h5 : 1 * 1 ≤ w * h := Int.mul_le_mul (by omega) (by omega) (by omega) (by omega)
  have h6 : w * h ≤ 256 * 256 := Int.mul_le_mul (by omega) (by omega) (by omega) (by omega)
  omega

set_option maxRecDepth 100000 in
theorem out1 (x s : Int) (W : World) (h : 0 ≤ s) (h2 : s ≤ 256) : Fn_ Try.prog 132 #[iv x, iv s] W (fun v H => v = .bool (outR x s) ∧ H = []) := by
  refine Fn_.intro Try.func132 rfl rfl (by rfl) ?_
  refine CS.seq ?_
  refine CS.region ?_
  refine RS.q rfl (QO.assign) ?_
  refine RS.nil ?_
  refine thenC_n ?_
  refine CS.seq ?_
  refine CS.region ?_
  refine RS.q rfl (QO.move) ?_
  refine RS.q rfl (QO.lss (by rfl) (by rfl)) ?_
  refine RS.q rfl (QO.move) ?_
  refine RS.split (dj := 7) (by rfl) (fun hb0 => ?_) (fun hb0 => ?_)
  · have hb0p := of_decide_eq_true hb0
    refine RS.off (dj := 7) rfl (.inl (congrArg Value.bool hb0)) (fun _ => rfl) rfl ?_
    refine RS.off (dj := 7) rfl (.inl (congrArg Value.bool hb0)) (fun _ => rfl) rfl ?_
    refine RS.off (dj := 7) rfl (.inl (congrArg Value.bool hb0)) (fun _ => rfl) rfl ?_
    refine RS.off (dj := 7) rfl (.inl (congrArg Value.bool hb0)) (fun _ => rfl) rfl ?_
    refine RS.q rfl (QO.pickT (by rfl) hb0 (by rfl)) ?_
    refine RS.q rfl (QO.assign) ?_
    refine RS.nil ?_
    refine thenC_n ?_
    refine CS.ret ?_
    refine retQ.mk (H' := []) (.inr rfl) (RVs.tmp (by rfl) RVs.nil) (List.nil_sublist _) ?_
    exact ⟨congrArg Value.bool (by first | (simp [outR]; done) | (simp [outR]; omega)), rfl⟩
  · have hb0p := of_decide_eq_false hb0
    refine RS.on (dj := 7) rfl (congrArg Value.bool hb0) ?_
    refine RS.q rfl (QO.move) ?_
    refine RS.on (dj := 7) rfl (congrArg Value.bool hb0) ?_
    refine RS.q rfl (QO.move) ?_
    refine RS.on (dj := 7) rfl (congrArg Value.bool hb0) ?_
    first | (refine RS.q rfl (QO.sub (by rfl) (by rfl) (by omega) (by omega)) ?_) | (refine RS.q rfl (QO.ibin (by rfl) (by rfl) trivial) ?_)
    refine RS.on (dj := 7) rfl (congrArg Value.bool hb0) ?_
    refine RS.q rfl (QO.gtr (by rfl) (by rfl)) ?_
    refine RS.q rfl (QO.pickF (by rfl) hb0 (by rfl)) ?_
    refine RS.q rfl (QO.assign) ?_
    refine RS.nil ?_
    refine thenC_n ?_
    refine CS.ret ?_
    refine retQ.mk (H' := []) (.inr rfl) (RVs.tmp (by rfl) RVs.nil) (List.nil_sublist _) ?_
    exact ⟨congrArg Value.bool (by first | (simp [outR]; done) | (simp [outR]; omega)), rfl⟩

set_option maxRecDepth 100000 in
theorem checkRegion (x y wi he : Int) (W : World) : Fn_ Try.prog 89 #[.agg #[iv x, iv y, iv wi, iv he]] W (fun v H => v = iv (regErr x y wi he) ∧ H = []) := by
  refine Fn_.intro Try.func89 rfl rfl (by rfl) ?_
  refine CS.seq ?_
  refine CS.region ?_
  refine RS.box rfl (by rfl) (by rfl) ?_
  intro g1
  refine RS.q rfl (QO.assign) ?_
  refine RS.nil ?_
  refine thenC_n ?_
  refine CS.seq ?_
  refine CS.region ?_
  refine RS.q rfl (QO.assign) ?_
  refine RS.nil ?_
  refine thenC_n ?_
  refine CS.seq ?_
  refine CS.block ?_
  refine CS.seq ?_
  refine CS.region ?_
  refine RS.q rfl (QO.fieldAddr fo23_2 (by rfl)) ?_
  first | (refine RS.q rfl (QO.load ty3 (by rfl) (by repeat (first | exact List.Mem.head _ | refine List.Mem.tail _ ?_)) (by rfl)) ?_) | (refine RS.q rfl (QO.loadO ty3 (by rfl) (by assumption)) ?_) | (refine RS.q rfl (QO.load ty3 (by rfl) (by repeat (first | exact List.Mem.head _ | refine List.Mem.tail _ ?_)) (by assumption)) ?_)
  refine RS.q rfl (QO.lss (by rfl) (by rfl)) ?_
  refine RS.q rfl (QO.move) ?_
  refine RS.split (dj := 8) (by rfl) (fun hb0 => ?_) (fun hb0 => ?_)
  · have hb0p := of_decide_eq_true hb0
    refine RS.off (dj := 8) rfl (.inl (congrArg Value.bool hb0)) (fun _ => rfl) rfl ?_
    refine RS.off (dj := 8) rfl (.inl (congrArg Value.bool hb0)) (fun _ => rfl) rfl ?_
    refine RS.off (dj := 8) rfl (.inl (congrArg Value.bool hb0)) (fun _ => rfl) rfl ?_
    refine RS.q rfl (QO.pickT (by rfl) hb0 (by rfl)) ?_
    refine RS.q rfl (QO.move) ?_
    refine RS.off (dj := 13) rfl (.inl (congrArg Value.bool rfl)) (fun _ => rfl) rfl ?_
    refine RS.off (dj := 13) rfl (.inl (congrArg Value.bool rfl)) (fun _ => rfl) rfl ?_
    refine RS.off (dj := 13) rfl (.inl (congrArg Value.bool rfl)) (fun _ => rfl) rfl ?_
    refine RS.q rfl (QO.pickT (by rfl) rfl (by rfl)) ?_
    refine RS.q rfl (QO.move) ?_
    refine RS.off (dj := 18) rfl (.inl (congrArg Value.bool rfl)) (fun _ => rfl) rfl ?_
    refine RS.off (dj := 18) rfl (.inl (congrArg Value.bool rfl)) (fun _ => rfl) rfl ?_
    refine RS.off (dj := 18) rfl (.inl (congrArg Value.bool rfl)) (fun _ => rfl) rfl ?_
    refine RS.q rfl (QO.pickT (by rfl) rfl (by rfl)) ?_
    refine RS.q rfl (QO.assign) ?_
    refine RS.nil ?_
    refine thenC_n ?_
    refine CS.condT (by rfl) rfl ?_
    refine CS.seq ?_
    refine CS.region ?_
    refine RS.q rfl (QO.assign) ?_
    refine RS.nil ?_
    refine thenC_n ?_
    refine CS.ret ?_
    refine blockC_r ?_
    refine thenC_r ?_
    refine retQ.mk (H' := []) (.inr rfl) (RVs.tmp (by rfl) RVs.nil) (List.nil_sublist _) ?_
    exact ⟨congrArg iv (by first | (unfold regErr; simp only [*]; done) | (unfold regErr; simp [*]; done) | (unfold regErr; simp [*]; omega)), rfl⟩
  · have hb0p := of_decide_eq_false hb0
    refine RS.on (dj := 8) rfl (congrArg Value.bool hb0) ?_
    refine RS.q rfl (QO.fieldAddr fo23_2 (by rfl)) ?_
    refine RS.on (dj := 8) rfl (congrArg Value.bool hb0) ?_
    first | (refine RS.q rfl (QO.load ty3 (by rfl) (by repeat (first | exact List.Mem.head _ | refine List.Mem.tail _ ?_)) (by rfl)) ?_) | (refine RS.q rfl (QO.loadO ty3 (by rfl) (by assumption)) ?_) | (refine RS.q rfl (QO.load ty3 (by rfl) (by repeat (first | exact List.Mem.head _ | refine List.Mem.tail _ ?_)) (by assumption)) ?_)
    refine RS.on (dj := 8) rfl (congrArg Value.bool hb0) ?_
    refine RS.q rfl (QO.gtr (by rfl) (by rfl)) ?_
    refine RS.q rfl (QO.pickF (by rfl) hb0 (by rfl)) ?_
    refine RS.q rfl (QO.move) ?_
    refine RS.split (dj := 13) (by rfl) (fun hb1 => ?_) (fun hb1 => ?_)
    · have hb1p := of_decide_eq_true hb1
      refine RS.off (dj := 13) rfl (.inl (congrArg Value.bool hb1)) (fun _ => rfl) rfl ?_
      refine RS.off (dj := 13) rfl (.inl (congrArg Value.bool hb1)) (fun _ => rfl) rfl ?_
      refine RS.off (dj := 13) rfl (.inl (congrArg Value.bool hb1)) (fun _ => rfl) rfl ?_
      refine RS.q rfl (QO.pickT (by rfl) hb1 (by rfl)) ?_
      refine RS.q rfl (QO.move) ?_
      refine RS.off (dj := 18) rfl (.inl (congrArg Value.bool rfl)) (fun _ => rfl) rfl ?_
      refine RS.off (dj := 18) rfl (.inl (congrArg Value.bool rfl)) (fun _ => rfl) rfl ?_
      refine RS.off (dj := 18) rfl (.inl (congrArg Value.bool rfl)) (fun _ => rfl) rfl ?_
      refine RS.q rfl (QO.pickT (by rfl) rfl (by rfl)) ?_
      refine RS.q rfl (QO.assign) ?_
      refine RS.nil ?_
      refine thenC_n ?_
      refine CS.condT (by rfl) rfl ?_
      refine CS.seq ?_
      refine CS.region ?_
      refine RS.q rfl (QO.assign) ?_
      refine RS.nil ?_
      refine thenC_n ?_
      refine CS.ret ?_
      refine blockC_r ?_
      refine thenC_r ?_
      refine retQ.mk (H' := []) (.inr rfl) (RVs.tmp (by rfl) RVs.nil) (List.nil_sublist _) ?_
      exact ⟨congrArg iv (by first | (unfold regErr; simp only [*]; done) | (unfold regErr; simp [*]; done) | (unfold regErr; simp [*]; omega)), rfl⟩
    · have hb1p := of_decide_eq_false hb1
      refine RS.on (dj := 13) rfl (congrArg Value.bool hb1) ?_
      refine RS.q rfl (QO.fieldAddr fo23_3 (by rfl)) ?_
      refine RS.on (dj := 13) rfl (congrArg Value.bool hb1) ?_
      first | (refine RS.q rfl (QO.load ty3 (by rfl) (by repeat (first | exact List.Mem.head _ | refine List.Mem.tail _ ?_)) (by rfl)) ?_) | (refine RS.q rfl (QO.loadO ty3 (by rfl) (by assumption)) ?_) | (refine RS.q rfl (QO.load ty3 (by rfl) (by repeat (first | exact List.Mem.head _ | refine List.Mem.tail _ ?_)) (by assumption)) ?_)
      refine RS.on (dj := 13) rfl (congrArg Value.bool hb1) ?_
      refine RS.q rfl (QO.lss (by rfl) (by rfl)) ?_
      refine RS.q rfl (QO.pickF (by rfl) hb1 (by rfl)) ?_
      refine RS.q rfl (QO.move) ?_
      refine RS.split (dj := 18) (by rfl) (fun hb2 => ?_) (fun hb2 => ?_)
      · have hb2p := of_decide_eq_true hb2
        refine RS.off (dj := 18) rfl (.inl (congrArg Value.bool hb2)) (fun _ => rfl) rfl ?_
        refine RS.off (dj := 18) rfl (.inl (congrArg Value.bool hb2)) (fun _ => rfl) rfl ?_
        refine RS.off (dj := 18) rfl (.inl (congrArg Value.bool hb2)) (fun _ => rfl) rfl ?_
        refine RS.q rfl (QO.pickT (by rfl) hb2 (by rfl)) ?_
        refine RS.q rfl (QO.assign) ?_
        refine RS.nil ?_
        refine thenC_n ?_
        refine CS.condT (by rfl) rfl ?_
        refine CS.seq ?_
        refine CS.region ?_
        refine RS.q rfl (QO.assign) ?_
        refine RS.nil ?_
        refine thenC_n ?_
        refine CS.ret ?_
        refine blockC_r ?_
        refine thenC_r ?_
        refine retQ.mk (H' := []) (.inr rfl) (RVs.tmp (by rfl) RVs.nil) (List.nil_sublist _) ?_
        exact ⟨congrArg iv (by first | (unfold regErr; simp only [*]; done) | (unfold regErr; simp [*]; done) | (unfold regErr; simp [*]; omega)), rfl⟩
      · have hb2p := of_decide_eq_false hb2
        refine RS.on (dj := 18) rfl (congrArg Value.bool hb2) ?_
        refine RS.q rfl (QO.fieldAddr fo23_3 (by rfl)) ?_
        refine RS.on (dj := 18) rfl (congrArg Value.bool hb2) ?_
        first | (refine RS.q rfl (QO.load ty3 (by rfl) (by repeat (first | exact List.Mem.head _ | refine List.Mem.tail _ ?_)) (by rfl)) ?_) | (refine RS.q rfl (QO.loadO ty3 (by rfl) (by assumption)) ?_) | (refine RS.q rfl (QO.load ty3 (by rfl) (by repeat (first | exact List.Mem.head _ | refine List.Mem.tail _ ?_)) (by assumption)) ?_)
        refine RS.on (dj := 18) rfl (congrArg Value.bool hb2) ?_
        refine RS.q rfl (QO.gtr (by rfl) (by rfl)) ?_
        refine RS.q rfl (QO.pickF (by rfl) hb2 (by rfl)) ?_
        refine RS.q rfl (QO.assign) ?_
        refine RS.nil ?_
        refine thenC_n ?_
        refine CS.cond (by rfl) (fun hb3 => ?_) (fun hb3 => ?_)
        · have hb3p := of_decide_eq_true hb3
          refine CS.seq ?_
          refine CS.region ?_
          refine RS.q rfl (QO.assign) ?_
          refine RS.nil ?_
          refine thenC_n ?_
          refine CS.ret ?_
          refine blockC_r ?_
          refine thenC_r ?_
          refine retQ.mk (H' := []) (.inr rfl) (RVs.tmp (by rfl) RVs.nil) (List.nil_sublist _) ?_
          exact ⟨congrArg iv (by first | (unfold regErr; simp only [*]; done) | (unfold regErr; simp [*]; done) | (unfold regErr; simp [*]; omega)), rfl⟩
        · have hb3p := of_decide_eq_false hb3
          refine CS.seq ?_
          refine CS.region ?_
          have hms := mul_small (w := wi) (h := he) (by omega) (by omega) (by omega) (by omega)
          refine RS.q rfl (QO.fieldAddr fo23_2 (by rfl)) ?_
          first | (refine RS.q rfl (QO.load ty3 (by rfl) (by repeat (first | exact List.Mem.head _ | refine List.Mem.tail _ ?_)) (by rfl)) ?_) | (refine RS.q rfl (QO.loadO ty3 (by rfl) (by assumption)) ?_) | (refine RS.q rfl (QO.load ty3 (by rfl) (by repeat (first | exact List.Mem.head _ | refine List.Mem.tail _ ?_)) (by assumption)) ?_)
          refine RS.q rfl (QO.fieldAddr fo23_3 (by rfl)) ?_
          first | (refine RS.q rfl (QO.load ty3 (by rfl) (by repeat (first | exact List.Mem.head _ | refine List.Mem.tail _ ?_)) (by rfl)) ?_) | (refine RS.q rfl (QO.loadO ty3 (by rfl) (by assumption)) ?_) | (refine RS.q rfl (QO.load ty3 (by rfl) (by repeat (first | exact List.Mem.head _ | refine List.Mem.tail _ ?_)) (by assumption)) ?_)
          first | (refine RS.q rfl (QO.mul (by rfl) (by rfl) (by omega) (by omega)) ?_) | (refine RS.q rfl (QO.ibin (by rfl) (by rfl) trivial) ?_)
          refine RS.q rfl (QO.gtr (by rfl) (by rfl)) ?_
          refine RS.q rfl (QO.assign) ?_
          refine RS.nil ?_
          refine thenC_n ?_
          refine CS.cond (by rfl) (fun hb4 => ?_) (fun hb4 => ?_)
          · have hb4p := of_decide_eq_true hb4
            refine CS.seq ?_
            refine CS.region ?_
            refine RS.q rfl (QO.assign) ?_
            refine RS.nil ?_
            refine thenC_n ?_
            refine CS.ret ?_
            refine blockC_r ?_
            refine thenC_r ?_
            refine retQ.mk (H' := []) (.inr rfl) (RVs.tmp (by rfl) RVs.nil) (List.nil_sublist _) ?_
            exact ⟨congrArg iv (by first | (unfold regErr; simp only [*]; done) | (unfold regErr; simp [*]; done) | (unfold regErr; simp [*]; omega)), rfl⟩
          · have hb4p := of_decide_eq_false hb4
            refine CS.seq ?_
            refine CS.region ?_
            refine RS.q rfl (QO.move) ?_
            refine RS.q rfl (QO.fieldAddr fo23_0 (by rfl)) ?_
            first | (refine RS.q rfl (QO.load ty3 (by rfl) (by repeat (first | exact List.Mem.head _ | refine List.Mem.tail _ ?_)) (by rfl)) ?_) | (refine RS.q rfl (QO.loadO ty3 (by rfl) (by assumption)) ?_) | (refine RS.q rfl (QO.load ty3 (by rfl) (by repeat (first | exact List.Mem.head _ | refine List.Mem.tail _ ?_)) (by assumption)) ?_)
            refine RS.q rfl (QO.fieldAddr fo23_2 (by rfl)) ?_
            first | (refine RS.q rfl (QO.load ty3 (by rfl) (by repeat (first | exact List.Mem.head _ | refine List.Mem.tail _ ?_)) (by rfl)) ?_) | (refine RS.q rfl (QO.loadO ty3 (by rfl) (by assumption)) ?_) | (refine RS.q rfl (QO.load ty3 (by rfl) (by repeat (first | exact List.Mem.head _ | refine List.Mem.tail _ ?_)) (by assumption)) ?_)
            refine RS.call rfl (by rfl) ok132 (by rfl) (fun w ho => out1 _ _ _ (by omega) (by omega)) ?_
            rintro _ _ ⟨rfl, rfl⟩
            refine RS.q rfl (QO.move) ?_
            refine RS.split (dj := 37) (by rfl) (fun hb5 => ?_) (fun hb5 => ?_)
            · refine RS.off (dj := 37) rfl (.inl (congrArg Value.bool hb5)) (fun _ => rfl) rfl ?_
              refine RS.off (dj := 37) rfl (.inl (congrArg Value.bool hb5)) (fun _ => rfl) rfl ?_
              refine RS.off (dj := 37) rfl (.inl (congrArg Value.bool hb5)) (fun _ => rfl) rfl ?_
              refine RS.off (dj := 37) rfl (.inl (congrArg Value.bool hb5)) (fun _ => rfl) rfl ?_
              refine RS.off (dj := 37) rfl (.inl (congrArg Value.bool hb5)) (fun _ => rfl) rfl ?_
              refine RS.off (dj := 37) rfl (.inl (congrArg Value.bool hb5)) (fun _ => rfl) rfl ?_
              refine RS.q rfl (QO.pickT (by rfl) hb5 (by rfl)) ?_
              refine RS.q rfl (QO.assign) ?_
              refine RS.nil ?_
              refine thenC_n ?_
              refine CS.condT (by rfl) rfl ?_
              refine CS.seq ?_
              refine CS.region ?_
              refine RS.q rfl (QO.assign) ?_
              refine RS.nil ?_
              refine thenC_n ?_
              refine CS.ret ?_
              refine blockC_r ?_
              refine thenC_r ?_
              refine retQ.mk (H' := []) (.inr rfl) (RVs.tmp (by rfl) RVs.nil) (List.nil_sublist _) ?_
              exact ⟨congrArg iv (by first | (unfold regErr; simp only [*]; done) | (unfold regErr; simp [*]; done) | (unfold regErr; simp [*]; omega)), rfl⟩
            · refine RS.on (dj := 37) rfl (congrArg Value.bool hb5) ?_
              refine RS.q rfl (QO.move) ?_
              refine RS.on (dj := 37) rfl (congrArg Value.bool hb5) ?_
              refine RS.q rfl (QO.fieldAddr fo23_1 (by rfl)) ?_
              refine RS.on (dj := 37) rfl (congrArg Value.bool hb5) ?_
              first | (refine RS.q rfl (QO.load ty3 (by rfl) (by repeat (first | exact List.Mem.head _ | refine List.Mem.tail _ ?_)) (by rfl)) ?_) | (refine RS.q rfl (QO.loadO ty3 (by rfl) (by assumption)) ?_) | (refine RS.q rfl (QO.load ty3 (by rfl) (by repeat (first | exact List.Mem.head _ | refine List.Mem.tail _ ?_)) (by assumption)) ?_)
              refine RS.on (dj := 37) rfl (congrArg Value.bool hb5) ?_
              refine RS.q rfl (QO.fieldAddr fo23_3 (by rfl)) ?_
              refine RS.on (dj := 37) rfl (congrArg Value.bool hb5) ?_
              first | (refine RS.q rfl (QO.load ty3 (by rfl) (by repeat (first | exact List.Mem.head _ | refine List.Mem.tail _ ?_)) (by rfl)) ?_) | (refine RS.q rfl (QO.loadO ty3 (by rfl) (by assumption)) ?_) | (refine RS.q rfl (QO.load ty3 (by rfl) (by repeat (first | exact List.Mem.head _ | refine List.Mem.tail _ ?_)) (by assumption)) ?_)
              refine RS.on (dj := 37) rfl (congrArg Value.bool hb5) ?_
              refine RS.call rfl (by rfl) ok132 (by rfl) (fun w ho => out1 _ _ _ (by omega) (by omega)) ?_
              rintro _ _ ⟨rfl, rfl⟩
              refine RS.q rfl (QO.pickF (by rfl) hb5 (by rfl)) ?_
              refine RS.q rfl (QO.assign) ?_
              refine RS.nil ?_
              refine thenC_n ?_
              refine CS.cond (by rfl) (fun hb6 => ?_) (fun hb6 => ?_)
              · refine CS.seq ?_
                refine CS.region ?_
                refine RS.q rfl (QO.assign) ?_
                refine RS.nil ?_
                refine thenC_n ?_
                refine CS.ret ?_
                refine blockC_r ?_
                refine thenC_r ?_
                refine retQ.mk (H' := []) (.inr rfl) (RVs.tmp (by rfl) RVs.nil) (List.nil_sublist _) ?_
                exact ⟨congrArg iv (by first | (unfold regErr; simp only [*]; done) | (unfold regErr; simp [*]; done) | (unfold regErr; simp [*]; omega)), rfl⟩
              · refine CS.skip ?_
                refine blockC_n ?_
                refine thenC_n ?_
                refine CS.seq ?_
                refine CS.region ?_
                refine RS.q rfl (QO.assign) ?_
                refine RS.nil ?_
                refine thenC_n ?_
                refine CS.ret ?_
                refine retQ.mk (H' := []) (.inr rfl) (RVs.tmp (by rfl) RVs.nil) (List.nil_sublist _) ?_
                exact ⟨congrArg iv (by first | (unfold regErr; simp only [*]; done) | (unfold regErr; simp [*]; done) | (unfold regErr; simp [*]; omega)), rfl⟩

def inB (n l h : Int) : Bool := decide (l ≤ n) && decide (n ≤ h)
end Go.Proofs.Ytapcgokcfmklbaa

namespace Go.Proofs.Ytapcgokcfmklbaa
open Go Go.Proofs Go.RowKit

theorem ty23 : tyChk Try.prog 23 = some ([.int .i64 0, .int .i64 0, .int .i64 0, .int .i64 0], true, 32) := by kernel_rfl
theorem ty24 : tyChk Try.prog 24 = some ([.slice none 0 0], false, 24) := by kernel_rfl
theorem ty26 : tyChk Try.prog 26 = some ([.int .i64 0, .int .i64 0, .int .i64 0, .int .i64 0, .slice none 0 0], true, 56) := by kernel_rfl
theorem ty29 : tyChk Try.prog 29 = some ([.float .f32 0], false, 4) := by kernel_rfl
theorem ty172 : tyChk Try.prog 172 = some ([.float .f32 0, .float .f32 0, .float .f32 0, .float .f32 0], true, 16) := by kernel_rfl
theorem fo26_0 : fldOff Try.prog 26 0 = some (0, 23) := by kernel_rfl
theorem fo26_1 : fldOff Try.prog 26 1 = some (4, 24) := by kernel_rfl
theorem ok108 : callOK Try.prog 108 = true := by kernel_rfl
theorem ok89 : callOK Try.prog 89 = true := by kernel_rfl
theorem ok58 : callOK Try.prog 58 = true := by kernel_rfl
def frErr (x y w h : Int) (n : Nat) : Int := if regErr x y w h ≠ 0 then regErr x y w h else if (n : Int) ≠ 4 * w * h then 2 else 0
theorem frErr_ok {x y w h : Int} {n : Nat} (e : frErr x y w h n = 0) : regErr x y w h = 0 ∧ (n : Int) = 4 * w * h := by
  unfold frErr at e
  split at e
  · contradiction
  · rename_i h1
    split at e
    · cases e
    · rename_i h2
      exact ⟨Decidable.not_not.1 h1, Decidable.not_not.1 h2⟩

set_option maxRecDepth 100000 in
theorem check (x y wi he : Int) (A : Option Addr) (m c : Nat) (W : World) : Fn_ Try.prog 58 #[.agg #[iv x, iv y, iv wi, iv he, .slice A m c]] W (fun v H => v = iv (frErr x y wi he m) ∧ H = []) := by
  refine Fn_.intro Try.func58 rfl rfl (by rfl) ?_
  refine CS.seq ?_
  refine CS.region ?_
  refine RS.box rfl (by rfl) (by rfl) ?_
  intro g1
  refine RS.q rfl (QO.assign) ?_
  refine RS.nil ?_
  refine thenC_n ?_
  refine CS.seq ?_
  refine CS.seq ?_
  refine CS.region ?_
  refine RS.q rfl (QO.fieldAddr fo26_0 (by rfl)) ?_
  first | (refine RS.q rfl (QO.loadB ty23 (by rfl) (by repeat (first | exact List.Mem.head _ | refine List.Mem.tail _ ?_)) (by rfl)) ?_) | (refine RS.q rfl (QO.loadA ty23 (by rfl) (by repeat (first | exact List.Mem.head _ | refine List.Mem.tail _ ?_)) (by rfl) (by rfl)) ?_) | (refine RS.q rfl (QO.loadOA ty23 (by rfl) (by assumption) (by rfl)) ?_)
  refine RS.call rfl (by rfl) ok89 (by rfl) (fun w ho => checkRegion _ _ _ _ _) ?_
  rintro _ _ ⟨rfl, rfl⟩
  refine RS.q rfl (QO.assign) ?_
  refine RS.nil ?_
  refine thenC_n ?_
  refine CS.seq ?_
  refine CS.region ?_
  refine RS.q rfl (QO.move) ?_
  refine RS.q rfl (QO.neq (by rfl) (by rfl)) ?_
  refine RS.nil ?_
  refine thenC_n ?_
  refine CS.cond (by rfl) (fun hb0 => ?_) (fun hb0 => ?_)
  · have hb0p := bne_iff_ne.1 hb0
    refine CS.seq ?_
    refine CS.region ?_
    refine RS.q rfl (QO.move) ?_
    refine RS.q rfl (QO.assign) ?_
    refine RS.nil ?_
    refine thenC_n ?_
    refine CS.ret ?_
    refine thenC_r ?_
    refine retQ.mk (H' := []) (.inr rfl) (RVs.tmp (by rfl) RVs.nil) (List.nil_sublist _) ?_
    exact ⟨congrArg iv (by unfold frErr; rw [if_pos hb0p]), rfl⟩
  · have hb0p := of_bne_false hb0
    refine CS.skip ?_
    refine thenC_n ?_
    refine CS.seq ?_
    refine CS.seq ?_
    refine CS.region ?_
    have hro := regErr_ok (of_bne_false hb0)
    refine RS.q rfl (QO.fieldAddr fo26_1 (by rfl)) ?_
    first | (refine RS.q rfl (QO.load ty24 (by rfl) (by repeat (first | exact List.Mem.head _ | refine List.Mem.tail _ ?_)) (by rfl)) ?_) | (refine RS.q rfl (QO.loadO ty24 (by rfl) (by assumption)) ?_) | (refine RS.q rfl (QO.load ty24 (by rfl) (by repeat (first | exact List.Mem.head _ | refine List.Mem.tail _ ?_)) (by assumption)) ?_)
    refine RS.q rfl (QO.lenS Try.underlying24 (by rfl)) ?_
    refine RS.q rfl (QO.fieldAddr fo26_0 (by rfl)) ?_
    refine RS.q rfl (QO.fieldAddr fo23_2 (by rfl)) ?_
    first | (refine RS.q rfl (QO.load ty3 (by rfl) (by repeat (first | exact List.Mem.head _ | refine List.Mem.tail _ ?_)) (by rfl)) ?_) | (refine RS.q rfl (QO.loadO ty3 (by rfl) (by assumption)) ?_) | (refine RS.q rfl (QO.load ty3 (by rfl) (by repeat (first | exact List.Mem.head _ | refine List.Mem.tail _ ?_)) (by assumption)) ?_)
    first | (refine RS.q rfl (QO.mul (by rfl) (by rfl) (by omega) (by omega)) ?_) | (refine RS.q rfl (QO.ibin (by rfl) (by rfl) trivial) ?_)
    refine RS.q rfl (QO.fieldAddr fo26_0 (by rfl)) ?_
    refine RS.q rfl (QO.fieldAddr fo23_3 (by rfl)) ?_
    first | (refine RS.q rfl (QO.load ty3 (by rfl) (by repeat (first | exact List.Mem.head _ | refine List.Mem.tail _ ?_)) (by rfl)) ?_) | (refine RS.q rfl (QO.loadO ty3 (by rfl) (by assumption)) ?_) | (refine RS.q rfl (QO.load ty3 (by rfl) (by repeat (first | exact List.Mem.head _ | refine List.Mem.tail _ ?_)) (by assumption)) ?_)
    first | (refine RS.q rfl (QO.mul (by rfl) (by rfl) (by omega) (by omega)) ?_) | (refine RS.q rfl (QO.ibin (by rfl) (by rfl) trivial) ?_)
    refine RS.q rfl (QO.neq (by rfl) (by rfl)) ?_
    refine RS.nil ?_
    refine thenC_n ?_
    refine CS.cond (by rfl) (fun hb1 => ?_) (fun hb1 => ?_)
    · have hb1p := bne_iff_ne.1 hb1
      refine CS.seq ?_
      refine CS.region ?_
      refine RS.q rfl (QO.assign) ?_
      refine RS.nil ?_
      refine thenC_n ?_
      refine CS.ret ?_
      refine thenC_r ?_
      refine retQ.mk (H' := []) (.inr rfl) (RVs.tmp (by rfl) RVs.nil) (List.nil_sublist _) ?_
      exact ⟨congrArg iv (by unfold frErr; rw [if_neg (Decidable.not_not.2 hb0p), if_pos hb1p]), rfl⟩
    · have hb1p := of_bne_false hb1
      refine CS.skip ?_
      refine thenC_n ?_
      refine CS.seq ?_
      refine CS.region ?_
      refine RS.q rfl (QO.assign) ?_
      refine RS.nil ?_
      refine thenC_n ?_
      refine CS.ret ?_
      refine retQ.mk (H' := []) (.inr rfl) (RVs.tmp (by rfl) RVs.nil) (List.nil_sublist _) ?_
      exact ⟨congrArg iv (by unfold frErr; rw [if_neg (Decidable.not_not.2 hb0p), if_neg (Decidable.not_not.2 hb1p)]), rfl⟩

/-- what Plane comes to -/
def PlaneR (x y wi he : Int) (xs : List Nat) (ch : Int) (v : Value) (H : HL) : Prop :=
  (frErr x y wi he xs.length ≠ 0 ∧ v = .tuple #[.slice none 0 0, iv (frErr x y wi he xs.length)] ∧ H = []) ∨
  (frErr x y wi he xs.length = 0 ∧ (ch < 0 ∨ 3 < ch) ∧ v = .tuple #[.slice none 0 0, iv 3] ∧ H = []) ∨
  (frErr x y wi he xs.length = 0 ∧ 0 ≤ ch ∧ ch ≤ 3 ∧ ∃ g, v = .tuple #[.slice (some ⟨g, 0, none⟩) (wi * he).toNat (wi * he).toNat, iv 0] ∧ H = [⟨g, 29, (planeV xs ch (wi * he).toNat).map flt⟩])

set_option maxRecDepth 100000 in
theorem plane (x y wi he : Int) (A : Option Addr) (n c : Nat) (xs : List Nat) (ch : Int) (W : World) (hn : xs.length = n) (hA : FS W A xs) : Fn_ Try.prog 108 #[.agg #[iv x, iv y, iv wi, iv he, .slice A n c], iv ch] W (fun v H => PlaneR x y wi he xs ch v H) := by
  subst hn
  refine Fn_.intro Try.func108 rfl rfl (by rfl) ?_
  refine CS.seq ?_
  refine CS.region ?_
  refine RS.box rfl (by rfl) (by rfl) ?_
  intro g2
  refine RS.q rfl (QO.assign) ?_
  refine RS.q rfl (QO.assign) ?_
  refine RS.nil ?_
  refine thenC_n ?_
  refine CS.seq ?_
  refine CS.seq ?_
  refine CS.region ?_
  first | (refine RS.q rfl (QO.loadB ty26 (by rfl) (by repeat (first | exact List.Mem.head _ | refine List.Mem.tail _ ?_)) (by rfl)) ?_) | (refine RS.q rfl (QO.loadA ty26 (by rfl) (by repeat (first | exact List.Mem.head _ | refine List.Mem.tail _ ?_)) (by rfl) (by rfl)) ?_) | (refine RS.q rfl (QO.loadOA ty26 (by rfl) (by assumption) (by rfl)) ?_)
  refine RS.call rfl (by rfl) ok58 (by rfl) (fun w ho => check _ _ _ _ _ _ _ _) ?_
  rintro _ _ ⟨rfl, rfl⟩
  refine RS.q rfl (QO.assign) ?_
  refine RS.nil ?_
  refine thenC_n ?_
  refine CS.seq ?_
  refine CS.region ?_
  refine RS.q rfl (QO.move) ?_
  refine RS.q rfl (QO.neq (by rfl) (by rfl)) ?_
  refine RS.nil ?_
  refine thenC_n ?_
  refine CS.cond (by rfl) (fun hb0 => ?_) (fun hb0 => ?_)
  · have hb0p := bne_iff_ne.1 hb0
    refine CS.seq ?_
    refine CS.region ?_
    refine RS.q rfl (QO.move) ?_
    refine RS.q rfl (QO.assign) ?_
    refine RS.q rfl (QO.assign) ?_
    refine RS.nil ?_
    refine thenC_n ?_
    refine CS.ret ?_
    refine thenC_r ?_
    refine retQ.mk (H' := []) (.inr rfl) (RVs.tmp (by rfl) (RVs.tmp (by rfl) RVs.nil)) (List.nil_sublist _) ?_
    exact .inl ⟨hb0p, rfl, rfl⟩
  · have hb0p := of_bne_false hb0
    refine CS.skip ?_
    refine thenC_n ?_
    refine CS.seq ?_
    refine CS.seq ?_
    refine CS.region ?_
    refine RS.q rfl (QO.move) ?_
    refine RS.q rfl (QO.lss (by rfl) (by rfl)) ?_
    refine RS.q rfl (QO.move) ?_
    refine RS.split (dj := 16) (by rfl) (fun hb1 => ?_) (fun hb1 => ?_)
    · have hb1p := of_decide_eq_true hb1
      refine RS.off (dj := 16) rfl (.inl (congrArg Value.bool hb1)) (fun _ => rfl) rfl ?_
      refine RS.off (dj := 16) rfl (.inl (congrArg Value.bool hb1)) (fun _ => rfl) rfl ?_
      refine RS.q rfl (QO.pickT (by rfl) hb1 (by rfl)) ?_
      refine RS.nil ?_
      refine thenC_n ?_
      refine CS.condT (by rfl) rfl ?_
      refine CS.seq ?_
      refine CS.region ?_
      refine RS.q rfl (QO.assign) ?_
      refine RS.q rfl (QO.assign) ?_
      refine RS.nil ?_
      refine thenC_n ?_
      refine CS.ret ?_
      refine thenC_r ?_
      refine retQ.mk (H' := []) (.inr rfl) (RVs.tmp (by rfl) (RVs.tmp (by rfl) RVs.nil)) (List.nil_sublist _) ?_
      exact .inr (.inl ⟨of_bne_false hb0, .inl hb1p, rfl, rfl⟩)
    · have hb1p := of_decide_eq_false hb1
      refine RS.on (dj := 16) rfl (congrArg Value.bool hb1) ?_
      refine RS.q rfl (QO.move) ?_
      refine RS.on (dj := 16) rfl (congrArg Value.bool hb1) ?_
      refine RS.q rfl (QO.gtr (by rfl) (by rfl)) ?_
      refine RS.q rfl (QO.pickF (by rfl) hb1 (by rfl)) ?_
      refine RS.nil ?_
      refine thenC_n ?_
      refine CS.cond (by rfl) (fun hb2 => ?_) (fun hb2 => ?_)
      · have hb2p := of_decide_eq_true hb2
        refine CS.seq ?_
        refine CS.region ?_
        refine RS.q rfl (QO.assign) ?_
        refine RS.q rfl (QO.assign) ?_
        refine RS.nil ?_
        refine thenC_n ?_
        refine CS.ret ?_
        refine thenC_r ?_
        refine retQ.mk (H' := []) (.inr rfl) (RVs.tmp (by rfl) (RVs.tmp (by rfl) RVs.nil)) (List.nil_sublist _) ?_
        exact .inr (.inl ⟨of_bne_false hb0, .inr hb2p, rfl, rfl⟩)
      · have hb2p := of_decide_eq_false hb2
        refine CS.skip ?_
        refine thenC_n ?_
        refine CS.seq ?_
        refine CS.region ?_
        obtain ⟨hr0, hn0⟩ := frErr_ok (of_bne_false hb0)
        have hro := regErr_ok hr0
        have hm : (((wi * he).toNat : Nat) : Int) = wi * he := by omega
        refine RS.q rfl (QO.fieldAddr fo26_0 (by rfl)) ?_
        refine RS.q rfl (QO.fieldAddr fo23_2 (by rfl)) ?_
        first | (refine RS.q rfl (QO.load ty3 (by rfl) (by repeat (first | exact List.Mem.head _ | refine List.Mem.tail _ ?_)) (by rfl)) ?_) | (refine RS.q rfl (QO.loadO ty3 (by rfl) (by assumption)) ?_) | (refine RS.q rfl (QO.load ty3 (by rfl) (by repeat (first | exact List.Mem.head _ | refine List.Mem.tail _ ?_)) (by assumption)) ?_)
        refine RS.q rfl (QO.fieldAddr fo26_0 (by rfl)) ?_
        refine RS.q rfl (QO.fieldAddr fo23_3 (by rfl)) ?_
        first | (refine RS.q rfl (QO.load ty3 (by rfl) (by repeat (first | exact List.Mem.head _ | refine List.Mem.tail _ ?_)) (by rfl)) ?_) | (refine RS.q rfl (QO.loadO ty3 (by rfl) (by assumption)) ?_) | (refine RS.q rfl (QO.load ty3 (by rfl) (by repeat (first | exact List.Mem.head _ | refine List.Mem.tail _ ?_)) (by assumption)) ?_)
        first | (refine RS.q rfl (QO.mul (by rfl) (by rfl) (by omega) (by omega)) ?_) | (refine RS.q rfl (QO.ibin (by rfl) (by rfl) trivial) ?_)
        refine RS.make rfl Try.underlying24 ty29 (by rfl) (by rfl) (by omega) (by omega) (by omega) (by omega) ?_
        intro gp
        refine RS.q rfl (QO.assign) ?_
        refine RS.nil ?_
        refine thenC_n ?_
        refine CS.seq ?_
        refine CS.seq ?_
        refine CS.region ?_
        refine RS.q rfl (QO.move) ?_
        refine RS.q rfl (QO.lenS Try.underlying24 (by rfl)) ?_
        refine RS.q rfl (QO.move) ?_
        refine RS.nil ?_
        refine thenC_n ?_
        refine CS.block ?_
        refine CS.loop (X := Nat) (8 :: 30 :: 31 :: 32 :: 33 :: 34 :: 35 :: 36 :: 37 :: 38 :: 39 :: 40 :: 41 :: 42 :: 43 :: 44 :: 45 :: []) (fun k => [(30, iv k)]) (fun k => [⟨gp, 29, partL (planeF xs ch) (wi * he).toNat k⟩, ⟨g2, 26, [iv x, iv y, iv wi, iv he, .slice A xs.length c]⟩]) (fun k => k ≤ (wi * he).toNat) (fun k => (wi * he).toNat - k) 0 (Nat.zero_le _) ?_ ?_ ?_
        · exact (by repeat (first | exact kn_nil | refine kn_cons (by rfl) ?_))
        · exact (by rw [partL_zero]; exact (by repeat (first | exact List.Sublist.refl _ | exact List.nil_sublist _ | refine List.Sublist.cons_cons _ ?_ | refine List.Sublist.cons _ ?_ | exact Sbp.refl | exact Sbp.nil | refine Sbp.cons (by repeat (first | exact Rem.head | apply Rem.tail)) ?_ | exact Sbp.app | refine Sbp.skip ?_)))
        · intro k gj8 hz
          refine CS.seq ?_
          refine CS.region ?_
          refine RS.q rfl (QO.lss (by rfl) (by rfl)) ?_
          refine RS.nil ?_
          refine thenC_n ?_
          refine CS.seq ?_
          refine CS.cond (by rfl) (fun hb3 => ?_) (fun hb3 => ?_)
          · have hb3p := of_decide_eq_true hb3
            refine CS.skip ?_
            refine thenC_n ?_
            refine CS.seq ?_
            refine CS.block ?_
            refine CS.seq ?_
            refine CS.region ?_
            refine RS.q rfl (QO.move) ?_
            refine RS.q rfl (QO.assign) ?_
            refine RS.nil ?_
            refine thenC_n ?_
            refine CS.region ?_
            obtain ⟨bA, oA, rfl, hcell⟩ := hA (by omega)
            have hlt : (4 * (k : Int) + ch).toNat < xs.length := by omega
            refine RS.q rfl (QO.move) ?_
            refine RS.q rfl (QO.move) ?_
            refine RS.q rfl (QO.fieldAddr fo26_1 (by rfl)) ?_
            first | (refine RS.q rfl (QO.load ty24 (by rfl) (by repeat (first | exact List.Mem.head _ | refine List.Mem.tail _ ?_)) (by rfl)) ?_) | (refine RS.q rfl (QO.loadO ty24 (by rfl) (by assumption)) ?_) | (refine RS.q rfl (QO.load ty24 (by rfl) (by repeat (first | exact List.Mem.head _ | refine List.Mem.tail _ ?_)) (by assumption)) ?_)
            refine RS.q rfl (QO.move) ?_
            first | (refine RS.q rfl (QO.mul (by rfl) (by rfl) (by omega) (by omega)) ?_) | (refine RS.q rfl (QO.ibin (by rfl) (by rfl) trivial) ?_)
            refine RS.q rfl (QO.move) ?_
            first | (refine RS.q rfl (QO.add (by rfl) (by rfl) (by omega) (by omega)) ?_) | (refine RS.q rfl (QO.ibin (by rfl) (by rfl) trivial) ?_)
            first | (refine RS.q rfl (QO.idx0 Try.underlying24 ty29 (by rfl) (by rfl) (by rfl) (by omega)) ?_) | (refine RS.q rfl (QO.idxn Try.underlying24 ty29 (by rfl) (by rfl) (by rfl) (by omega)) ?_) | (refine RS.q rfl (QO.idx1 Try.underlying24 ty29 (by rfl) (by rfl) (by omega) (by omega)) ?_)
            refine RS.q rfl (QO.loadO ty29 (by rfl) (hcell _ _ (List.getElem?_eq_getElem hlt))) ?_
            refine RS.call rfl (by rfl) ok57 (by rfl) (fun w ho => clean _ _) ?_
            rintro _ _ ⟨rfl, rfl⟩
            first | (refine RS.q rfl (QO.idx0 Try.underlying24 ty29 (by rfl) (by rfl) (by rfl) (by omega)) ?_) | (refine RS.q rfl (QO.idxn Try.underlying24 ty29 (by rfl) (by rfl) (by rfl) (by omega)) ?_) | (refine RS.q rfl (QO.idx1 Try.underlying24 ty29 (by rfl) (by rfl) (by omega) (by omega)) ?_)
            refine RS.store1e ty29 rfl (by rfl) (by rfl) (by rfl) (partL_set (planeF xs ch) (wi * he).toNat k _ (planeF_at xs ch k hlt) (by omega)) (by repeat (first | exact Upd.head | apply Upd.tail)) (by rw [partL_len]; omega) ?_
            refine RS.nil ?_
            refine blockC_n ?_
            refine thenC_n ?_
            refine CS.region ?_
            first | (refine RS.q rfl (QO.add (by rfl) (by rfl) (by omega) (by omega)) ?_) | (refine RS.q rfl (QO.ibin (by rfl) (by rfl) trivial) ?_)
            refine RS.q rfl (QO.move) ?_
            refine RS.nil ?_
            refine loopQ_n (by intro t ht; repeat (first | with_reducible exact rfl | exact frame_puts ht (frame_mix ht) _ rfl | (refine frame_put rfl ht ?_) | (refine frame_puts ht ?_ _ rfl) | exact frame_mix ht | (refine frame_mix2 rfl ht ?_) | exact rfl)) ?_
            exact ⟨k + 1, by omega, by omega, (by repeat (first | exact kn_nil | refine kn_cons (by rfl) ?_)), (by repeat (first | exact List.Sublist.refl _ | exact List.nil_sublist _ | refine List.Sublist.cons_cons _ ?_ | refine List.Sublist.cons _ ?_ | exact Sbp.refl | exact Sbp.nil | refine Sbp.cons (by repeat (first | exact Rem.head | apply Rem.tail)) ?_ | exact Sbp.app | refine Sbp.skip ?_))⟩
          · have hb3p := of_decide_eq_false hb3
            refine CS.exit ?_
            refine thenC_x ?_
            refine loopQ_x ?_
            refine blockC_x ?_
            refine thenC_n ?_
            refine CS.seq ?_
            refine CS.region ?_
            refine RS.q rfl (QO.move) ?_
            refine RS.q rfl (QO.assign) ?_
            refine RS.q rfl (QO.assign) ?_
            refine RS.nil ?_
            refine thenC_n ?_
            refine CS.ret ?_
            refine retQ.mk (H' := [⟨gp, 29, (planeV xs ch (wi * he).toNat).map flt⟩]) (.inr rfl) (RVs.tmp (by rfl) (RVs.tmp (by rfl) RVs.nil)) (by obtain rfl : k = (wi * he).toNat := (by omega); rw [partL_full]; exact (by repeat (first | exact List.Sublist.refl _ | exact List.nil_sublist _ | refine List.Sublist.cons_cons _ ?_ | refine List.Sublist.cons _ ?_ | exact Sbp.refl | exact Sbp.nil | refine Sbp.cons (by repeat (first | exact Rem.head | apply Rem.tail)) ?_ | exact Sbp.app | refine Sbp.skip ?_))) ?_
            exact .inr (.inr ⟨of_bne_false hb0, by omega, by omega, gp, rfl, rfl⟩)

theorem PlaneR.ok {x y wi he : Int} {xs : List Nat} {ch : Int} {v : Value} {H : HL} (h : PlaneR x y wi he xs ch v H) (e : frErr x y wi he xs.length = 0) (h0 : 0 ≤ ch) (h3 : ch ≤ 3) :
    ∃ g, v = .tuple #[.slice (some ⟨g, 0, none⟩) (wi * he).toNat (wi * he).toNat, iv 0] ∧ H = [⟨g, 29, (planeV xs ch (wi * he).toNat).map flt⟩] := by
  rcases h with ⟨h, _⟩ | ⟨_, h, _⟩ | ⟨_, _, _, h⟩
  · exact absurd e h
  · omega
  · exact h
/-- the sum of a channel -/
def chanF (xs : List Nat) (m : Nat) (ch : Nat) : Nat := Go.Proofs.Ytapcgokcfmklbaa.sum (planeV xs (ch : Int) m)
theorem fitN_eq (wi he : Int) : ((fitN wi he : Nat) : Int) = 4 * (1 + and7 wi) * (1 + and7 he) ∧ 4 * (1 + and7 wi) * (1 + and7 he) = 4 * ((1 + and7 wi) * (1 + and7 he)) ∧ 1 ≤ (1 + and7 wi) * (1 + and7 he) ∧ (1 + and7 wi) * (1 + and7 he) ≤ 64 := by
  have h1 := and7_bd wi
  have h2 := and7_bd he
  have h5 : (1 + and7 wi) * (1 + and7 he) ≤ 8 * 8 := Int.mul_le_mul (by omega) (by omega) (by omega) (by omega)
  have h6 : 1 * 1 ≤ (1 + and7 wi) * (1 + and7 he) := Int.mul_le_mul (by omega) (by omega) (by omega) (by omega)
  have h7 : 4 * (1 + and7 wi) * (1 + and7 he) = 4 * ((1 + and7 wi) * (1 + and7 he)) := Int.mul_assoc ..
  unfold fitN
  omega
theorem fitV_len (xs : List Nat) (wi he : Int) : (fitV xs wi he).length = fitN wi he := by simp [fitV]
end Go.Proofs.Ytapcgokcfmklbaa

namespace Go.Proofs.Ytapcgokcfmklbaa
open Go Go.RowKit

def intFields (P : Program) : Nat → List Field → Bool
  | _, [] => true
  | o, f :: fs => f.name != "_" && f.offset == o && (match P.underlying f.type with | some (.int .i64) => true | _ => false) && (match tyChk P f.type with | some ([_], false, _) => true | _ => false) && intFields P (o + 1) fs
def intsT (P : Program) (t : TypeId) : Nat :=
  match P.underlying t with
  | some (.struct fs) => if P.stoodInHeld t = false ∧ P.eqGuardType P.depth t = false ∧ intFields P 0 fs.toList = true then fs.size else 0
  | _ => 0
section
variable {P : Program} {W : World} {H : HL} {e : Env} {x y : Operand} {t t' ty : TypeId}
theorem QO.buildA {ag : Bool} {by_ by2 l : Nat} {z z2 : List Value} {el : TypeId} {parts : Array (Nat × Operand)} {cs : List Value} (hu : P.underlying t = some (.array l el)) (ht : tyChk P t = some (z, true, by_)) (he : tyChk P el = some (z2, ag, by2))
    (hf : fillL (fun i => some (i * z2.length, z2.length)) z (parts.toList.map fun p => (p.1, ev e p.2)) = some cs) : QO P W H e (.build t parts) ty (.agg cs.toArray) := fun d pos af gd w _ => by
  obtain ⟨zv, hz1, hz2⟩ := run_zero (w := w) ht
  have hf' := fill_of _ _ _ hf
  simp only [execOp, Instr.build, Sem.run_bind, hz1, Result.andThen_ok, run_underlying hu, run_size he, hz2]
  have e1 : (Array.map (fun x => match x with | (i, x) => (i, ev e x)) parts).toList = parts.toList.map fun p => (p.1, ev e p.2) := by simp
  simp only [e1, hf', Result.andThen_ok, Sem.run_pure]
end
end Go.Proofs.Ytapcgokcfmklbaa

namespace Go.Proofs.Ytapcgokcfmklbaa
open Go Go.RowKit

/-- A pixel. -/
abbrev pxv (q : Nat → Nat) : Value := .agg #[flt (q 0), flt (q 1), flt (q 2), flt (q 3)]
/-- The numbers of a frame that is made pixel by pixel. -/
def madeF (p : Int → Int → Nat → Nat) (x y : Int) (w : Nat) (i : Nat) : Nat := cl (p (x + ((i / 4 % w : Nat) : Int)) (y + ((i / 4 / w : Nat) : Int)) (i % 4))
def madeV (p : Int → Int → Nat → Nat) (x y : Int) (w m : Nat) : List Nat := (List.range m).map (madeF p x y w)
theorem madeF_at {p : Int → Int → Nat → Nat} {x y : Int} {w yy xx c : Nat} (hx : xx < w) (hc : c < 4) : madeF p x y w (4 * (w * yy + xx) + c) = cl (p (x + xx) (y + yy) c) := by
  unfold madeF
  have h1 : (4 * (w * yy + xx) + c) / 4 = w * yy + xx := by omega
  have h2 : (4 * (w * yy + xx) + c) % 4 = c := by omega
  rw [h1, h2, Nat.mul_add_mod, Nat.mod_eq_of_lt hx, Nat.mul_add_div (by omega), Nat.div_eq_of_lt hx, Nat.add_zero]
theorem madeV_len (p : Int → Int → Nat → Nat) (x y : Int) (w m : Nat) : (madeV p x y w m).length = m := by simp [madeV]
def near (x X : Int) (w : Nat) : Int := min (max X x) (x + w - 1)
theorem near_in {x X : Int} {w : Nat} (h1 : x ≤ X) (h2 : X < x + w) : near x X w = X := by unfold near; omega
/-- A number of a pixel of a frame. -/
def pixF (xs : List Nat) (x y : Int) (w h : Nat) (X Y : Int) (c : Nat) : Nat := xs.getD (4 * ((near y Y h - y).toNat * w + (near x X w - x).toNat) + c) 0
theorem pixF_at {xs : List Nat} {x y : Int} {w h : Nat} {X Y : Int} {i j : Nat} (hi : near x X w = x + i) (hj : near y Y h = y + j) (c : Nat) : pixF xs x y w h X Y c = xs.getD (4 * (j * w + i) + c) 0 := by
  unfold pixF
  rw [hi, hj, show (y + (j : Int) - y).toNat = j by omega, show (x + (i : Int) - x).toNat = i by omega]
end Go.Proofs.Ytapcgokcfmklbaa

namespace Go.Proofs.Ytapcgokcfmklbaa
open Go Go.Proofs Go.RowKit

theorem pl26 : places Try.prog 26 = some #[(0, 4), (4, 1)] := by kernel_rfl
/-- A frame that a call hands back: its numbers stand in a block of its own. -/
def MadeR (x y wi he : Int) (vals : List Nat) (v : Value) (H : HL) : Prop := ∃ g cap junk, v = .agg #[iv x, iv y, iv wi, iv he, .slice (some ⟨g, 0, none⟩) vals.length cap] ∧ H = [⟨g, 29, vals.map flt ++ junk⟩] ∧ vals.length ≤ cap ∧ cap ≤ maxLen
/-- the numbers of a frame whose pixels are turned one by one -/
def eachV (T : Nat → (Nat → Nat) → Nat) (xs : List Nat) (m : Nat) : List Nat := (List.range m).map fun i => cl (T (i % 4) fun c => xs.getD (4 * (i / 4) + c) 0)
end Go.Proofs.Ytapcgokcfmklbaa

namespace Go.Proofs.Ytapcgokcfmklbaa
open Go Go.Proofs Go.RowKit

/-- Planes that come in: four slices. -/
abbrev plsv (A : Nat → Option Addr) (n c : Nat → Nat) : List Value := [.slice (A 0) (n 0) (c 0), .slice (A 1) (n 1) (c 1), .slice (A 2) (n 2) (c 2), .slice (A 3) (n 3) (c 3)]
/-- what FromPlanes finds -/
def fpErr (x y wi he : Int) (n : Nat → Nat) : Int := if regErr x y wi he ≠ 0 then regErr x y wi he else if (List.range 4).all (fun k => decide ((n k : Int) = wi * he)) = true then 0 else 2
theorem fpErr_ok {x y wi he : Int} {n : Nat → Nat} (h : regErr x y wi he = 0) (hn : ∀ k, k < 4 → (n k : Int) = wi * he) : fpErr x y wi he n = 0 := by
  unfold fpErr
  rw [if_neg (by simpa using h), if_pos (List.all_eq_true.2 fun k hk => by simpa using hn k (List.mem_range.1 hk))]
/-- the numbers of a frame of planes -/
def fpV (xs : Nat → List Nat) (N : Nat) : List Nat := (List.range N).map fun i => cl ((xs (i % 4)).getD (i / 4) 0)
def FPR (x y wi he : Int) (n : Nat → Nat) (xs : Nat → List Nat) (v : Value) (H : HL) : Prop :=
  (fpErr x y wi he n ≠ 0 ∧ v = .tuple #[.agg #[iv 0, iv 0, iv 0, iv 0, .slice none 0 0], iv (fpErr x y wi he n)] ∧ H = []) ∨
  (fpErr x y wi he n = 0 ∧ ∃ (g N : Nat), (N : Int) = 4 * wi * he ∧ v = .tuple #[.agg #[iv x, iv y, iv wi, iv he, .slice (some ⟨g, 0, none⟩) N N], iv 0] ∧ H = [⟨g, 29, (fpV xs N).map flt⟩])

end Go.Proofs.Ytapcgokcfmklbaa

namespace Go.Proofs.Ytapcgokcfmklbaa
open Go Go.Proofs Go.RowKit

theorem regErr_small {X Y : Int} {a b : Nat} (ha : 1 ≤ a ∧ a ≤ 8) (hb : 1 ≤ b ∧ b ≤ 8) (hX : -1000 ≤ X ∧ X ≤ 1000) (hY : -1000 ≤ Y ∧ Y ≤ 1000) : regErr X Y a b = 0 := by
  have h5 : a * b ≤ 8 * 8 := Nat.mul_le_mul ha.2 hb.2
  have h6 : ((a * b : Nat) : Int) = (a : Int) * (b : Int) := Int.natCast_mul ..
  unfold regErr outR
  rw [if_neg (by omega), if_neg (by omega), if_neg (by simp; omega)]
/-- four planes, as far as they are there -/
def gsL (G : Nat → Nat) (m k : Nat) : List Value := (List.range 4).map fun i => if i < k then .slice (some ⟨G i, 0, none⟩) m m else .slice none 0 0
theorem fpV_planes (ys : List Nat) (m : Nat) (h : ys.length = 4 * m) : fpV (fun i => planeV ys (i : Int) m) (4 * m) = ys.map cl := by
  unfold fpV
  apply List.ext_getElem
  · simp [h]
  · intro i h1 h2
    simp at h1 h2
    have h3 : i / 4 < m := by omega
    have h4 : (planeV ys ((i % 4 : Nat) : Int) m)[i / 4]? = some (planeF ys ((i % 4 : Nat) : Int) (i / 4)) := by
      unfold planeV
      rw [List.getElem?_map, List.getElem?_range h3]; rfl
    have h5 : (4 * ((i / 4 : Nat) : Int) + ((i % 4 : Nat) : Int)).toNat = i := by omega
    simp only [List.getElem_map, List.getElem_range]
    rw [List.getD_eq_getElem?_getD, h4]
    show cl (planeF ys ((i % 4 : Nat) : Int) (i / 4)) = _
    unfold planeF
    rw [cl_cl, h5, getD_at]
theorem FPR.ok {x y : Int} {a b : Nat} {ys : List Nat} {v : Value} {H : HL} (hr : regErr x y a b = 0) (hN : ys.length = 4 * (a * b)) (h : FPR x y a b (fun _ => a * b) (fun i => planeV ys (i : Int) (a * b)) v H) :
    ∃ g, v = .tuple #[.agg #[iv x, iv y, iv (a : Int), iv (b : Int), .slice (some ⟨g, 0, none⟩) ys.length ys.length], iv 0] ∧ H = [⟨g, 29, (ys.map cl).map flt⟩] := by
  have h6 : ((a * b : Nat) : Int) = (a : Int) * (b : Int) := Int.natCast_mul ..
  have h7 : 4 * (a : Int) * (b : Int) = 4 * ((a : Int) * (b : Int)) := Int.mul_assoc ..
  have h0 : fpErr x y a b (fun _ => a * b) = 0 := fpErr_ok hr fun _ _ => h6
  rcases h with ⟨h1, _⟩ | ⟨_, g, N, hNN, rfl, rfl⟩
  · exact absurd h0 h1
  · obtain rfl : N = 4 * (a * b) := by omega
    rw [fpV_planes _ _ hN, ← hN]
    exact ⟨g, rfl, rfl⟩
theorem FPR.any {x y wi he : Int} {n : Nat → Nat} {xs : Nat → List Nat} {v : Value} {H : HL} (h : FPR x y wi he n xs v H) :
    ∃ (x9 y9 w9 h9 : Int) (A9 : Option Addr) (n9 : Nat), v = .tuple #[.agg #[iv x9, iv y9, iv w9, iv h9, .slice A9 n9 n9], iv (fpErr x y wi he n)] ∧ (fpErr x y wi he n ≠ 0 → n9 = 0) := by
  rcases h with ⟨h1, rfl, rfl⟩ | ⟨h1, g, N, hNN, rfl, rfl⟩
  · exact ⟨_, _, _, _, _, _, rfl, fun _ => rfl⟩
  · rw [h1]
    exact ⟨_, _, _, _, _, _, rfl, fun h => absurd rfl h⟩
/-- what the law makes of the planes -/
def wkErr (x y wi he : Int) (n : Nat → Nat) (k : Nat) : Int := if regErr x y wi he ≠ 0 then regErr x y wi he else if (List.range k).all (fun k => decide ((n k : Int) = wi * he)) = true then 0 else 2
end Go.Proofs.Ytapcgokcfmklbaa

namespace Go.Proofs.Ytapcgokcfmklbaa
open Go Go.Proofs Go.RowKit

theorem pl23 : places Try.prog 23 = some #[(0, 1), (1, 1), (2, 1), (3, 1)] := by kernel_rfl
/-- is the first region inside the second -/
def insB (ax ay aw ah bx bz bw bh : Int) : Bool := decide (bx ≤ ax ∧ bz ≤ ay ∧ ax ≤ bx + bw - aw ∧ ay ≤ bz + bh - ah)
def smallI (x : Int) : Prop := -4611686018427387904 ≤ x ∧ x ≤ 2305843009213693952

/-- a frame brought to another region -/
def likeV (xs : List Nat) (N : Nat) : List Nat := (List.range N).map fun i => xs.getD (i % xs.length) 0
/-- do the first k numbers of pixel i agree -/
def sameK (ys zs : List Nat) (i k : Nat) : Bool := (List.range k).all fun c => ((cl (ys.getD (4 * i + c) 0) : Nat) : Int) == (cl (zs.getD (4 * i + c) 0) : Nat)
/-- how many of the first m pixels differ -/
def cnt (ys zs : List Nat) : Nat → Nat
  | 0 => 0
  | m + 1 => cnt ys zs m + if sameK ys zs m 4 then 0 else 1
/-- the box holds every pixel that differs -/
def boxOK (ys zs : List Nat) (a : Nat) (k : Nat) (L T R B : Int) : Prop := ∀ i, i < k → sameK ys zs i 4 = false → L ≤ ((i % a : Nat) : Int) ∧ T ≤ ((i / a : Nat) : Int) ∧ ((i % a : Nat) : Int) + 1 ≤ R ∧ ((i / a : Nat) : Int) + 1 ≤ B
end Go.Proofs.Ytapcgokcfmklbaa

namespace Go.Proofs.Ytapcgokcfmklbaa
open Go Go.Proofs Go.RowKit

/-- what a mix of two numbers gives -/
def lerpV (a b t : Nat) : Nat := if fcmpB .eql t 0 then cl a else if fcmpB .eql t 1065353216 then cl b else fo .add a (fo .mul (fo .sub b a) t)
def f2 {α : Type} (a b : α) (k : Nat) : α := if k = 0 then a else b
/-- what is wrong with a matte -/
def mErr (x y w h : Int) (n : Nat) : Int := if regErr x y w h ≠ 0 then regErr x y w h else if (n : Int) ≠ w * h then 2 else 0
/-- what a call that hands back a frame or an error comes to -/
def FrR (err X Y wi he : Int) (vals : List Nat) (v : Value) (H : HL) : Prop :=
  (err = 0 ∧ ∃ g cap junk, v = .tuple #[.agg #[iv X, iv Y, iv wi, iv he, .slice (some ⟨g, 0, none⟩) vals.length cap], iv 0] ∧ H = [⟨g, 29, vals.map flt ++ junk⟩] ∧ vals.length ≤ cap ∧ cap ≤ maxLen) ∨
  (err ≠ 0 ∧ v = .tuple #[.agg #[iv 0, iv 0, iv 0, iv 0, .slice none 0 0], iv err] ∧ H = [])
def FV (err X Y wi he : Int) (vals : List Nat) (x y w h : Int) (A : Option Addr) (n : Nat) (H : HL) : Prop :=
  (err ≠ 0 ∧ x = 0 ∧ y = 0 ∧ w = 0 ∧ h = 0 ∧ n = 0) ∨ (err = 0 ∧ x = X ∧ y = Y ∧ w = wi ∧ h = he ∧ n = vals.length ∧ n ≤ maxLen ∧ ∃ g junk, A = some ⟨g, 0, none⟩ ∧ (⟨g, 29, vals.map flt ++ junk⟩ : B) ∈ H)
theorem FrR.any {err X Y wi he : Int} {vals : List Nat} {v : Value} {H : HL} (h : FrR err X Y wi he vals v H) :
    ∃ (x y w h : Int) (A : Option Addr) (n c : Nat), v = .tuple #[.agg #[iv x, iv y, iv w, iv h, .slice A n c], iv err] ∧ FV err X Y wi he vals x y w h A n H := by
  rcases h with ⟨h1, g, cap, junk, rfl, rfl, h2, h3⟩ | ⟨h1, rfl, rfl⟩
  · subst h1
    exact ⟨_, _, _, _, _, _, _, rfl, .inr ⟨rfl, rfl, rfl, rfl, rfl, rfl, by omega, g, junk, rfl, List.Mem.head _⟩⟩
  · exact ⟨_, _, _, _, _, _, _, rfl, .inl ⟨h1, rfl, rfl, rfl, rfl, rfl⟩⟩
/-- the same, in a world -/
def FW (err X Y wi he : Int) (vals : List Nat) (x y w h : Int) (A : Option Addr) (n : Nat) (W : World) : Prop :=
  (err ≠ 0 ∧ x = 0 ∧ y = 0 ∧ w = 0 ∧ h = 0 ∧ n = 0) ∨ (err = 0 ∧ x = X ∧ y = Y ∧ w = wi ∧ h = he ∧ n = vals.length ∧ n ≤ maxLen ∧ FS W A vals)
theorem FS.at_ {W : World} {A : Option Addr} {xs : List Nat} (h : FS W A xs) (i : Nat) (hi : i < xs.length) : ∃ b o, A = some ⟨b, o, none⟩ ∧ W.cell? ⟨b, o + i, none⟩ = some (flt (xs.getD i 0)) := by
  obtain ⟨b, o, h1, h2⟩ := h (by omega)
  exact ⟨b, o, h1, h2 _ _ (by rw [List.getElem?_eq_getElem hi, getD_at])⟩

def thE (e : Int) (r r2 r3 : List Int) : Int := if e ≠ 0 then e else if r = r2 ∧ r = r3 then 0 else 5
theorem FrR.mk0 {err X Y wi he : Int} {vals : List Nat} {g n : Nat} (hl : vals.length = n) (hn : n ≤ maxLen) (e : err = 0) : FrR err X Y wi he vals (.tuple #[.agg #[iv X, iv Y, iv wi, iv he, .slice (some ⟨g, 0, none⟩) n n], iv 0]) [⟨g, 29, vals.map flt⟩] := by
  subst hl
  exact .inl ⟨e, g, _, [], rfl, by rw [List.append_nil], Nat.le_refl _, hn⟩
theorem FrR.mkE {err X Y wi he k : Int} {vals : List Nat} (e : err = k) (hk : k ≠ 0) : FrR err X Y wi he vals (.tuple #[.agg #[iv 0, iv 0, iv 0, iv 0, .slice none 0 0], iv k]) [] := by
  subst e
  exact .inr ⟨hk, rfl, rfl⟩
def mixV (ys zs : List Nat) (t n : Nat) : List Nat := (List.range n).map fun i => cl (lerpV (ys.getD i 0) (zs.getD i 0) t)
def thrV (ys zs ms : List Nat) (n : Nat) : List Nat := (List.range n).map fun i => cl (lerpV (ys.getD i 0) (zs.getD i 0) (ms.getD (i / 4) 0))

/-- a matte brought to a region -/
def mofF (ms : List Nat) (i : Nat) : Nat := if 0 < ms.length then ms.getD (i % ms.length) 0 else 0
end Go.Proofs.Ytapcgokcfmklbaa

namespace Go.Proofs.Ytapcgokcfmklbaa
open Go Go.RowKit

theorem fdiv_neg {a : Int} {s : Nat} (h : 1 ≤ s) (hm : a.tmod (s : Int) < 0) : a.tdiv (s : Int) - 1 = a / (s : Int) ∧ a.tmod (s : Int) + (s : Int) = a % (s : Int) := by
  rw [Int.tmod_eq_emod] at hm ⊢
  rw [Int.tdiv_eq_ediv]
  have h1 := Int.emod_nonneg a (b := (s : Int)) (by omega)
  split at hm
  · omega
  · rename_i h2
    rw [if_neg h2, if_neg h2, Int.sign_eq_one_of_pos (by omega)]
    constructor <;> omega
theorem fdiv_pos {a : Int} {s : Nat} (h : 1 ≤ s) (hm : ¬ a.tmod (s : Int) < 0) : a.tdiv (s : Int) = a / (s : Int) ∧ a.tmod (s : Int) = a % (s : Int) := by
  rw [Int.tmod_eq_emod] at hm ⊢
  rw [Int.tdiv_eq_ediv]
  have h1 := Int.emod_lt_of_pos a (b := (s : Int)) (by omega)
  split at hm
  · rename_i h2
    rw [if_pos h2, if_pos h2]
    constructor <;> omega
  · rename_i h2
    omega
theorem tdiv_bd {a : Int} {s : Nat} (h : -1000000000000 ≤ a ∧ a ≤ 1000000000000) : -1000000000000 ≤ a.tdiv (s : Int) ∧ a.tdiv (s : Int) ≤ 1000000000000 := by
  have := Int.natAbs_tdiv_le_natAbs a (s : Int)
  omega
/-- the place before the first tile -/
def px (X : Int) (s : Nat) : Nat := (X % (s : Int)).toNat
theorem px_eq {X : Int} {s : Nat} (h : 1 ≤ s) : ((px X s : Nat) : Int) = X % (s : Int) ∧ px X s < s := by
  have h1 := Int.emod_nonneg X (b := (s : Int)) (by omega)
  have h2 := Int.emod_lt_of_pos X (b := (s : Int)) (by omega)
  unfold px
  omega
/-- how many tiles -/
def cntI (X : Int) (w s : Nat) : Nat := (px X s + w + s - 1) / s
theorem cntI_iff {X : Int} {w s i : Nat} (h : 1 ≤ s) : i < cntI X w s ↔ s * i < px X s + w := by
  unfold cntI
  rw [Nat.lt_div_iff_mul_lt (by omega), Nat.mul_comm]
  omega
/-- where tile i begins, and how wide it is -/
def tb (X : Int) (s i : Nat) : Int := max X (X - (px X s : Nat) + ((s * i : Nat) : Int))
def tw (X : Int) (w s i : Nat) : Int := min (X + w) (X - (px X s : Nat) + ((s * i : Nat) : Int) + s) - tb X s i
theorem tw_pos {X : Int} {w s i : Nat} (h : 1 ≤ s) (hw : 1 ≤ w) (hi : i < cntI X w s) : 1 ≤ tw X w s i ∧ tw X w s i ≤ w := by
  have h1 := (cntI_iff h).1 hi
  have h2 := (px_eq (X := X) h).2
  unfold tw tb
  omega
/-- how much the first i tiles cover -/
def cov (X : Int) (w s i : Nat) : Int := min (w : Int) (max 0 (((s * i : Nat) : Int) - (px X s : Nat)))
theorem cov_zero (X : Int) (w s : Nat) : cov X w s 0 = 0 := by unfold cov; omega
theorem cov_succ {X : Int} {w s i : Nat} (h : 1 ≤ s) (hi : i < cntI X w s) : cov X w s (i + 1) = cov X w s i + tw X w s i := by
  have h1 := (cntI_iff h).1 hi
  have h2 := (px_eq (X := X) h).2
  have h3 : s * (i + 1) = s * i + s := Nat.mul_succ s i
  unfold cov tw tb
  rw [h3]
  omega
theorem cov_end {X : Int} {w s i : Nat} (h : 1 ≤ s) (hi : ¬ i < cntI X w s) : cov X w s i = w := by
  have h1 : ¬ s * i < px X s + w := fun h1 => hi ((cntI_iff h).2 h1)
  unfold cov
  omega
theorem cov_bd (X : Int) (w s i : Nat) : 0 ≤ cov X w s i ∧ cov X w s i ≤ w := by unfold cov; omega

abbrev Rg := Int × Int × Int × Int
def rgc (t : Rg) : List Value := [iv t.1, iv t.2.1, iv t.2.2.1, iv t.2.2.2]
def area (t : Rg) : Int := t.2.2.1 * t.2.2.2
def areas : List Rg → Int
  | [] => 0
  | t :: l => area t + areas l
/-- tile (i, j) of a region -/
def tile (X Y : Int) (w h s i j : Nat) : Rg := (tb X s i, tb Y s j, tw X w s i, tw Y h s j)
/-- the tiles of the rows below j -/
def rowsL (X Y : Int) (w h s : Nat) : Nat → List Rg
  | 0 => []
  | j + 1 => rowsL X Y w h s j ++ (List.range (cntI X w s)).map (tile X Y w h s · j)
/-- and of row j the first i -/
def tilesL (X Y : Int) (w h s j i : Nat) : List Rg := rowsL X Y w h s j ++ (List.range i).map (tile X Y w h s · j)
theorem tilesL_zero (X Y : Int) (w h s j : Nat) : tilesL X Y w h s j 0 = rowsL X Y w h s j := by simp [tilesL]
theorem tilesL_succ (X Y : Int) (w h s j i : Nat) : tilesL X Y w h s j (i + 1) = tilesL X Y w h s j i ++ [tile X Y w h s i j] := by simp [tilesL, List.range_succ]
theorem tilesL_row (X Y : Int) (w h s j : Nat) : tilesL X Y w h s j (cntI X w s) = rowsL X Y w h s (j + 1) := rfl
theorem mem_rows {X Y : Int} {w h s : Nat} {t : Rg} : ∀ j, t ∈ rowsL X Y w h s j → ∃ i k, i < cntI X w s ∧ k < j ∧ t = tile X Y w h s i k
  | 0, ht => by cases ht
  | j + 1, ht => by
    rcases List.mem_append.1 ht with h1 | h1
    · obtain ⟨i, k, h2, h3, h4⟩ := mem_rows j h1
      exact ⟨i, k, h2, by omega, h4⟩
    · obtain ⟨i, hi, rfl⟩ := List.mem_map.1 h1
      exact ⟨i, j, List.mem_range.1 hi, by omega, rfl⟩
/-- cells of a row of regions -/
def rgs (l : List Rg) : List Value := l.flatMap rgc
theorem rgs_at : ∀ (l : List Rg) (i : Nat) (t : Rg) (j : Nat) (v : Value), l[i]? = some t → (rgc t)[j]? = some v → (rgs l)[i * 4 + j]? = some v
  | [], i, t, j, v, h, _ => by simp at h
  | u :: l, 0, t, j, v, h, hv => by
    simp at h; subst h
    have hj : j < (rgc u).length := (List.getElem?_eq_some_iff.1 hv).1
    show (rgc u ++ rgs l)[0 * 4 + j]? = _
    rw [List.getElem?_append_left (by omega), show 0 * 4 + j = j by omega]
    exact hv
  | u :: l, i + 1, t, j, v, h, hv => by
    show (rgc u ++ rgs l)[(i + 1) * 4 + j]? = _
    have h4 : (rgc u).length = 4 := rfl
    rw [List.getElem?_append_right (by omega), h4, show (i + 1) * 4 + j - 4 = i * 4 + j by omega]
    exact rgs_at l i t j v (by simpa using h) hv
theorem rgs_len (l : List Rg) : (rgs l).length = l.length * 4 := by
  induction l with
  | nil => rfl
  | cons t l ih => show (rgc t ++ rgs l).length = _; rw [List.length_append, ih]; show 4 + _ = _; simp; omega
theorem rgs_append (l : List Rg) (t : Rg) : rgs (l ++ [t]) = rgs l ++ rgc t := by simp [rgs]
/-- A slice of regions that reads so. -/
def RSl (W : World) (A : Option Addr) (l : List Rg) : Prop := 0 < l.length → ∃ b o, A = some ⟨b, o, none⟩ ∧ ∀ i t, l[i]? = some t → ∀ j v, (rgc t)[j]? = some v → W.cell? ((⟨b, o + i * 4, none⟩ : Addr).add j) = some v
theorem RSl.own {W w : World} {H : HL} {A : Option Addr} {l : List Rg} (h : RSl W A l) (ho : Own W w H) : RSl w A l := fun hn => by
  obtain ⟨b, o, h1, h2⟩ := h hn
  exact ⟨b, o, h1, fun i t hi j v hj => ho.old (h2 i t hi j v hj)⟩
theorem RSl.blk {W w : World} {H : HL} {g : Nat} {t : TypeId} {l : List Rg} {junk : List Value} (ho : Own W w H) (hm : (⟨g, t, rgs l ++ junk⟩ : B) ∈ H) : RSl w (some ⟨g, 0, none⟩) l := fun _ => by
  refine ⟨g, 0, rfl, fun i u hi j v hj => ?_⟩
  rw [addr_add, (ho.blk _ hm).2.cell]
  have h1 := rgs_at l i u j v hi hj
  have h2 : i * 4 + j < (rgs l).length := (List.getElem?_eq_some_iff.1 h1).1
  rw [Nat.zero_add, List.getElem?_append_left h2]
  exact h1
theorem tmod_bd {a : Int} {s : Nat} (h : 1 ≤ s) : -(s : Int) < a.tmod (s : Int) ∧ a.tmod (s : Int) < (s : Int) := by
  rw [Int.tmod_eq_emod]
  have h1 := Int.emod_nonneg a (b := (s : Int)) (by omega)
  have h2 := Int.emod_lt_of_pos a (b := (s : Int)) (by omega)
  split <;> omega
theorem cntI_le {X : Int} {w s : Nat} (h : 1 ≤ s) : cntI X w s ≤ w + 1 := by
  rcases Nat.lt_or_ge (w + 1) (cntI X w s) with h1 | h1
  · have h2 := (cntI_iff h).1 h1
    have h3 := (px_eq (X := X) h).2
    have h4 : 1 * w ≤ s * w := Nat.mul_le_mul_right w h
    have h5 : s * (w + 1) = s * w + s := Nat.mul_succ s w
    omega
  · exact h1
theorem si_bd {X : Int} {w s i : Nat} (h : 1 ≤ s) (hi : i ≤ cntI X w s) : s * i < px X s + w + s + 1 := by
  cases i with
  | zero => simp
  | succ i =>
    have h2 := (cntI_iff h).1 (show i < cntI X w s by omega)
    have h5 : s * (i + 1) = s * i + s := Nat.mul_succ s i
    omega
theorem rowsL_len (X Y : Int) (w h s : Nat) : ∀ j, (rowsL X Y w h s j).length = j * cntI X w s
  | 0 => by simp [rowsL]
  | j + 1 => by
    show (rowsL X Y w h s j ++ _).length = _
    rw [List.length_append, rowsL_len X Y w h s j, List.length_map, List.length_range, Nat.succ_mul]
theorem tilesL_len {X Y : Int} {w h s j i : Nat} (hs : 1 ≤ s) (hw : w ≤ 256) (hh : h ≤ 256) (hj : j ≤ cntI Y h s) (hi : i ≤ cntI X w s) : (tilesL X Y w h s j i).length ≤ 70000 := by
  have h1 := cntI_le (X := X) (w := w) hs
  have h2 := cntI_le (X := Y) (w := h) hs
  have h3 : j * cntI X w s ≤ 257 * 257 := Nat.mul_le_mul (by omega) (by omega)
  unfold tilesL
  rw [List.length_append, rowsL_len, List.length_map, List.length_range]
  omega
theorem rgs_take {l : List Rg} {junk : List Value} {k : Nat} (hk : k < l.length) : ((rgs l ++ junk).drop (k * 4)).take 4 = rgc l[k] := by
  have h4 := rgs_len l
  rw [List.drop_append_of_le_length (by omega), List.take_append_of_le_length (by rw [List.length_drop]; omega)]
  apply List.ext_getElem?
  intro j
  by_cases hj : j < 4
  · have h2 : j < (rgc l[k]).length := hj
    rw [List.getElem?_take_of_lt hj, List.getElem?_drop, List.getElem?_eq_getElem h2]
    exact rgs_at l k _ j _ (List.getElem?_eq_getElem hk) (List.getElem?_eq_getElem h2)
  · rw [List.getElem?_eq_none (by simp; omega), List.getElem?_eq_none (by show 4 ≤ j; omega)]
/-! what two regions have in common -/
def cmw (a b c d : Int) : Int := min (a + c) (b + d) - max a b
def cmB (ax ay aw ah bx bz bw bh : Int) : Bool := decide (1 ≤ cmw ax bx aw bw) && decide (1 ≤ cmw ay bz ah bh)
def cmT (ax ay aw ah bx bz bw bh : Int) : Rg := if cmB ax ay aw ah bx bz bw bh = true then (max ax bx, max ay bz, cmw ax bx aw bw, cmw ay bz ah bh) else (0, 0, 0, 0)
section
variable {ax ay aw ah bx bz bw bh : Int}
theorem cm_w (h : min (ax + aw) (bx + bw) - max ax bx < 1) : cmB ax ay aw ah bx bz bw bh = false ∧ cmT ax ay aw ah bx bz bw bh = (0, 0, 0, 0) := by
  have hB : cmB ax ay aw ah bx bz bw bh = false := by unfold cmB cmw; rw [decide_eq_false (by omega)]; rfl
  exact ⟨hB, if_neg (by rw [hB]; decide)⟩
theorem cm_h (h : min (ay + ah) (bz + bh) - max ay bz < 1) : cmB ax ay aw ah bx bz bw bh = false ∧ cmT ax ay aw ah bx bz bw bh = (0, 0, 0, 0) := by
  have hB : cmB ax ay aw ah bx bz bw bh = false := by unfold cmB cmw; rw [decide_eq_false (p := 1 ≤ min (ay + ah) (bz + bh) - max ay bz) (by omega), Bool.and_false]
  exact ⟨hB, if_neg (by rw [hB]; decide)⟩
theorem cm_ok (h : ¬ min (ax + aw) (bx + bw) - max ax bx < 1) (h2 : ¬ min (ay + ah) (bz + bh) - max ay bz < 1) : cmB ax ay aw ah bx bz bw bh = true ∧ cmT ax ay aw ah bx bz bw bh = (max ax bx, max ay bz, cmw ax bx aw bw, cmw ay bz ah bh) := by
  have hB : cmB ax ay aw ah bx bz bw bh = true := by unfold cmB cmw; rw [decide_eq_true (by omega), decide_eq_true (by omega)]; rfl
  exact ⟨hB, if_pos hB⟩
end
theorem cm_tile {X Y : Int} {w h s i j : Nat} (hs : 1 ≤ s) (hw : 1 ≤ w) (hh : 1 ≤ h) (hi : i < cntI X w s) (hj : j < cntI Y h s) :
    cmB X Y w h (X - (px X s : Nat) + ((s * i : Nat) : Int)) (Y - (px Y s : Nat) + ((s * j : Nat) : Int)) s s = true ∧ cmT X Y w h (X - (px X s : Nat) + ((s * i : Nat) : Int)) (Y - (px Y s : Nat) + ((s * j : Nat) : Int)) s s = tile X Y w h s i j := by
  have h1 := tw_pos (X := X) hs hw hi
  have h2 := tw_pos (X := Y) hs hh hj
  unfold tw tb at h1 h2
  exact cm_ok (by omega) (by omega)
/-! a region grown -/
def gErr (x y w h n e1 e2 : Int) : Int := if e1 ≠ 0 then e1 else if n < -256 ∨ 256 < n then 3 else e2
def gT (x y w h n e : Int) : Rg := if e = 0 then (x - n, y - n, w + 2 * n, h + 2 * n) else (0, 0, 0, 0)
end Go.Proofs.Ytapcgokcfmklbaa

namespace Go.Proofs.Ytapcgokcfmklbaa
open Go Go.Proofs Go.RowKit

theorem ok94 : callOK Try.prog 94 = true := by kernel_rfl
theorem ok93 : callOK Try.prog 93 = true := by kernel_rfl
theorem tup2 {p p' q q' : Int} (h : p = p') (h2 : q = q') : Value.tuple #[iv p, iv q] = Value.tuple #[iv p', iv q'] := by subst h h2; rfl
theorem cmv {T T' : Rg} {b b' : Bool} (h : T = T') (h2 : b = b') : Value.tuple #[.agg (rgc T).toArray, .bool b] = Value.tuple #[.agg (rgc T').toArray, .bool b'] := by subst h h2; rfl
theorem gv {T T' : Rg} {e e' : Int} (h : T = T') (h2 : e = e') : Value.tuple #[.agg (rgc T).toArray, iv e] = Value.tuple #[.agg (rgc T').toArray, iv e'] := by subst h h2; rfl
theorem tv {vs : Value} {e e' : Int} (h2 : e = e') : Value.tuple #[vs, iv e] = Value.tuple #[vs, iv e'] := by subst h2; rfl
theorem trow_nil {L : List Rg} (h : L = []) : Row 23 4 (.slice none 0 0) L.length (rgs L) [] := by subst h; exact .nil
theorem trow {L L' : List Rg} {v : Value} {H : HL} (h : L = L') (k : Row 23 4 v L'.length (rgs L') H) : Row 23 4 v L.length (rgs L) H := by subst h; exact k

set_option maxRecDepth 100000 in
theorem floorDiv (a : Int) (s : Nat) (W : World) (hs : 1 ≤ s) (hs2 : s ≤ 256) (ha : -1000000000000 ≤ a ∧ a ≤ 1000000000000) : Fn_ Try.prog 93 #[iv a, iv (s : Int)] W (fun v H => v = .tuple #[iv (a / (s : Int)), iv (a % (s : Int))] ∧ H = []) := by
  have htb := tdiv_bd (s := s) ha
  have htm := tmod_bd (a := a) hs
  refine Fn_.intro Try.func93 rfl rfl (by rfl) ?_
  refine CS.seq ?_
  refine CS.region ?_
  refine RS.q rfl (QO.assign) ?_
  refine RS.q rfl (QO.assign) ?_
  refine RS.nil ?_
  refine thenC_n ?_
  refine CS.seq ?_
  refine CS.draw 8 rfl (by kernel_rfl) (by kernel_rfl) ?_
  refine RT.take (i := 0) rfl (by kernel_rfl) rfl (QO.move) ?_
  refine RT.take (i := 1) rfl (by kernel_rfl) rfl (QO.move) ?_
  refine RT.take (i := 2) rfl (by kernel_rfl) rfl (QO.quo (by rfl) (by rfl) (by omega) (by omega) (by omega)) ?_
  refine RT.take (i := 3) rfl (by kernel_rfl) rfl (QO.move) ?_
  refine RT.take (i := 4) rfl (by kernel_rfl) rfl (QO.move) ?_
  refine RT.take (i := 5) rfl (by kernel_rfl) rfl (QO.rem (by rfl) (by rfl) (by omega)) ?_
  refine RT.take (i := 6) rfl (by kernel_rfl) rfl (QO.assign) ?_
  refine RT.take (i := 7) rfl (by kernel_rfl) rfl (QO.assign) ?_
  refine RT.done (by kernel_rfl) ?_
  refine thenC_n ?_
  refine CS.seq ?_
  refine CS.seq ?_
  refine CS.region ?_
  refine RS.q rfl (QO.move) ?_
  refine RS.q rfl (QO.lss (by rfl) (by rfl)) ?_
  refine RS.nil ?_
  refine thenC_n ?_
  refine CS.cond (by rfl) (fun hb0 => ?_) (fun hb0 => ?_)
  · have hb0p := of_decide_eq_true hb0
    refine CS.region ?_
    refine RS.q rfl (QO.move) ?_
    first | (refine RS.q rfl (QO.sub (by rfl) (by rfl) (by omega) (by omega)) ?_) | (refine RS.q rfl (QO.ibin (by rfl) (by rfl) trivial) ?_)
    refine RS.q rfl (QO.move) ?_
    refine RS.q rfl (QO.move) ?_
    first | (refine RS.q rfl (QO.add (by rfl) (by rfl) (by omega) (by omega)) ?_) | (refine RS.q rfl (QO.ibin (by rfl) (by rfl) trivial) ?_)
    refine RS.q rfl (QO.assign) ?_
    refine RS.q rfl (QO.assign) ?_
    refine RS.nil ?_
    refine thenC_n ?_
    refine CS.seq ?_
    refine CS.region ?_
    refine RS.q rfl (QO.move) ?_
    refine RS.q rfl (QO.move) ?_
    refine RS.q rfl (QO.assign) ?_
    refine RS.q rfl (QO.assign) ?_
    refine RS.nil ?_
    refine thenC_n ?_
    refine CS.ret ?_
    refine retQ.mk (H' := []) (.inr rfl) (RVs.tmp (by rfl) (RVs.tmp (by rfl) RVs.nil)) (List.nil_sublist _) ?_
    have h9 := fdiv_neg hs hb0p
    exact ⟨tup2 h9.1 h9.2, rfl⟩
  · have hb0p := of_decide_eq_false hb0
    refine CS.skip ?_
    refine thenC_n ?_
    refine CS.seq ?_
    refine CS.region ?_
    refine RS.q rfl (QO.move) ?_
    refine RS.q rfl (QO.move) ?_
    refine RS.q rfl (QO.assign) ?_
    refine RS.q rfl (QO.assign) ?_
    refine RS.nil ?_
    refine thenC_n ?_
    refine CS.ret ?_
    refine retQ.mk (H' := []) (.inr rfl) (RVs.tmp (by rfl) (RVs.tmp (by rfl) RVs.nil)) (List.nil_sublist _) ?_
    have h9 := fdiv_pos hs hb0p
    exact ⟨tup2 h9.1 h9.2, rfl⟩

set_option maxRecDepth 100000 in
theorem common_ (ax ay aw ah bx bz bw bh : Int) (W : World) (q0 : (-1000000000 ≤ ax ∧ ax ≤ 1000000000)) (q1 : (-1000000000 ≤ ay ∧ ay ≤ 1000000000)) (q2 : (-1000000000 ≤ aw ∧ aw ≤ 1000000000)) (q3 : (-1000000000 ≤ ah ∧ ah ≤ 1000000000)) (q4 : (-1000000000 ≤ bx ∧ bx ≤ 1000000000)) (q5 : (-1000000000 ≤ bz ∧ bz ≤ 1000000000)) (q6 : (-1000000000 ≤ bw ∧ bw ≤ 1000000000)) (q7 : (-1000000000 ≤ bh ∧ bh ≤ 1000000000)) : Fn_ Try.prog 94 #[.agg #[iv ax, iv ay, iv aw, iv ah], .agg #[iv bx, iv bz, iv bw, iv bh]] W (fun v H => v = .tuple #[.agg (rgc (cmT ax ay aw ah bx bz bw bh)).toArray, .bool (cmB ax ay aw ah bx bz bw bh)] ∧ H = []) := by
  refine Fn_.intro Try.func94 rfl rfl (by rfl) ?_
  refine CS.seq ?_
  refine CS.region ?_
  refine RS.box rfl (by rfl) (by rfl) ?_
  intro g2
  refine RS.box rfl (by rfl) (by rfl) ?_
  intro g3
  refine RS.alloc rfl ty23 ?_
  intro g4
  refine RS.q rfl (QO.assign) ?_
  refine RS.nil ?_
  refine thenC_n ?_
  refine CS.seq ?_
  refine CS.draw 12 rfl (by kernel_rfl) (by kernel_rfl) ?_
  refine RT.take (i := 0) rfl (by kernel_rfl) rfl (QO.fieldAddr fo23_0 (by rfl)) ?_
  first | (refine RT.take (i := 1) rfl (by kernel_rfl) rfl (QO.load ty3 (by rfl) (by repeat (first | exact List.Mem.head _ | refine List.Mem.tail _ ?_)) (by rfl)) ?_) | (refine RT.take (i := 1) rfl (by kernel_rfl) rfl (QO.loadO ty3 (by rfl) (by assumption)) ?_) | (refine RT.take (i := 1) rfl (by kernel_rfl) rfl (QO.load ty3 (by rfl) (by repeat (first | exact List.Mem.head _ | refine List.Mem.tail _ ?_)) (by assumption)) ?_)
  refine RT.take (i := 2) rfl (by kernel_rfl) rfl (QO.fieldAddr fo23_0 (by rfl)) ?_
  first | (refine RT.take (i := 3) rfl (by kernel_rfl) rfl (QO.load ty3 (by rfl) (by repeat (first | exact List.Mem.head _ | refine List.Mem.tail _ ?_)) (by rfl)) ?_) | (refine RT.take (i := 3) rfl (by kernel_rfl) rfl (QO.loadO ty3 (by rfl) (by assumption)) ?_) | (refine RT.take (i := 3) rfl (by kernel_rfl) rfl (QO.load ty3 (by rfl) (by repeat (first | exact List.Mem.head _ | refine List.Mem.tail _ ?_)) (by assumption)) ?_)
  refine RT.take (i := 4) rfl (by kernel_rfl) rfl (QO.max2 (by rfl) (by rfl)) ?_
  refine RT.take (i := 5) rfl (by kernel_rfl) rfl (QO.fieldAddr fo23_1 (by rfl)) ?_
  first | (refine RT.take (i := 6) rfl (by kernel_rfl) rfl (QO.load ty3 (by rfl) (by repeat (first | exact List.Mem.head _ | refine List.Mem.tail _ ?_)) (by rfl)) ?_) | (refine RT.take (i := 6) rfl (by kernel_rfl) rfl (QO.loadO ty3 (by rfl) (by assumption)) ?_) | (refine RT.take (i := 6) rfl (by kernel_rfl) rfl (QO.load ty3 (by rfl) (by repeat (first | exact List.Mem.head _ | refine List.Mem.tail _ ?_)) (by assumption)) ?_)
  refine RT.take (i := 7) rfl (by kernel_rfl) rfl (QO.fieldAddr fo23_1 (by rfl)) ?_
  first | (refine RT.take (i := 8) rfl (by kernel_rfl) rfl (QO.load ty3 (by rfl) (by repeat (first | exact List.Mem.head _ | refine List.Mem.tail _ ?_)) (by rfl)) ?_) | (refine RT.take (i := 8) rfl (by kernel_rfl) rfl (QO.loadO ty3 (by rfl) (by assumption)) ?_) | (refine RT.take (i := 8) rfl (by kernel_rfl) rfl (QO.load ty3 (by rfl) (by repeat (first | exact List.Mem.head _ | refine List.Mem.tail _ ?_)) (by assumption)) ?_)
  refine RT.take (i := 9) rfl (by kernel_rfl) rfl (QO.max2 (by rfl) (by rfl)) ?_
  refine RT.take (i := 10) rfl (by kernel_rfl) rfl (QO.assign) ?_
  refine RT.take (i := 11) rfl (by kernel_rfl) rfl (QO.assign) ?_
  refine RT.done (by kernel_rfl) ?_
  refine thenC_n ?_
  refine CS.seq ?_
  refine CS.region ?_
  refine RS.q rfl (QO.move) ?_
  refine RS.q rfl (QO.move) ?_
  refine RS.q rfl (QO.fieldAddr fo23_0 (by rfl)) ?_
  first | (refine RS.q rfl (QO.load ty3 (by rfl) (by repeat (first | exact List.Mem.head _ | refine List.Mem.tail _ ?_)) (by rfl)) ?_) | (refine RS.q rfl (QO.loadO ty3 (by rfl) (by assumption)) ?_) | (refine RS.q rfl (QO.load ty3 (by rfl) (by repeat (first | exact List.Mem.head _ | refine List.Mem.tail _ ?_)) (by assumption)) ?_)
  refine RS.q rfl (QO.fieldAddr fo23_2 (by rfl)) ?_
  first | (refine RS.q rfl (QO.load ty3 (by rfl) (by repeat (first | exact List.Mem.head _ | refine List.Mem.tail _ ?_)) (by rfl)) ?_) | (refine RS.q rfl (QO.loadO ty3 (by rfl) (by assumption)) ?_) | (refine RS.q rfl (QO.load ty3 (by rfl) (by repeat (first | exact List.Mem.head _ | refine List.Mem.tail _ ?_)) (by assumption)) ?_)
  first | (refine RS.q rfl (QO.add (by rfl) (by rfl) (by omega) (by omega)) ?_) | (refine RS.q rfl (QO.ibin (by rfl) (by rfl) trivial) ?_)
  refine RS.q rfl (QO.fieldAddr fo23_0 (by rfl)) ?_
  first | (refine RS.q rfl (QO.load ty3 (by rfl) (by repeat (first | exact List.Mem.head _ | refine List.Mem.tail _ ?_)) (by rfl)) ?_) | (refine RS.q rfl (QO.loadO ty3 (by rfl) (by assumption)) ?_) | (refine RS.q rfl (QO.load ty3 (by rfl) (by repeat (first | exact List.Mem.head _ | refine List.Mem.tail _ ?_)) (by assumption)) ?_)
  refine RS.q rfl (QO.fieldAddr fo23_2 (by rfl)) ?_
  first | (refine RS.q rfl (QO.load ty3 (by rfl) (by repeat (first | exact List.Mem.head _ | refine List.Mem.tail _ ?_)) (by rfl)) ?_) | (refine RS.q rfl (QO.loadO ty3 (by rfl) (by assumption)) ?_) | (refine RS.q rfl (QO.load ty3 (by rfl) (by repeat (first | exact List.Mem.head _ | refine List.Mem.tail _ ?_)) (by assumption)) ?_)
  first | (refine RS.q rfl (QO.add (by rfl) (by rfl) (by omega) (by omega)) ?_) | (refine RS.q rfl (QO.ibin (by rfl) (by rfl) trivial) ?_)
  refine RS.q rfl (QO.min2 (by rfl) (by rfl)) ?_
  refine RS.q rfl (QO.move) ?_
  first | (refine RS.q rfl (QO.sub (by rfl) (by rfl) (by omega) (by omega)) ?_) | (refine RS.q rfl (QO.ibin (by rfl) (by rfl) trivial) ?_)
  refine RS.q rfl (QO.fieldAddr fo23_1 (by rfl)) ?_
  first | (refine RS.q rfl (QO.load ty3 (by rfl) (by repeat (first | exact List.Mem.head _ | refine List.Mem.tail _ ?_)) (by rfl)) ?_) | (refine RS.q rfl (QO.loadO ty3 (by rfl) (by assumption)) ?_) | (refine RS.q rfl (QO.load ty3 (by rfl) (by repeat (first | exact List.Mem.head _ | refine List.Mem.tail _ ?_)) (by assumption)) ?_)
  refine RS.q rfl (QO.fieldAddr fo23_3 (by rfl)) ?_
  first | (refine RS.q rfl (QO.load ty3 (by rfl) (by repeat (first | exact List.Mem.head _ | refine List.Mem.tail _ ?_)) (by rfl)) ?_) | (refine RS.q rfl (QO.loadO ty3 (by rfl) (by assumption)) ?_) | (refine RS.q rfl (QO.load ty3 (by rfl) (by repeat (first | exact List.Mem.head _ | refine List.Mem.tail _ ?_)) (by assumption)) ?_)
  first | (refine RS.q rfl (QO.add (by rfl) (by rfl) (by omega) (by omega)) ?_) | (refine RS.q rfl (QO.ibin (by rfl) (by rfl) trivial) ?_)
  refine RS.q rfl (QO.fieldAddr fo23_1 (by rfl)) ?_
  first | (refine RS.q rfl (QO.load ty3 (by rfl) (by repeat (first | exact List.Mem.head _ | refine List.Mem.tail _ ?_)) (by rfl)) ?_) | (refine RS.q rfl (QO.loadO ty3 (by rfl) (by assumption)) ?_) | (refine RS.q rfl (QO.load ty3 (by rfl) (by repeat (first | exact List.Mem.head _ | refine List.Mem.tail _ ?_)) (by assumption)) ?_)
  refine RS.q rfl (QO.fieldAddr fo23_3 (by rfl)) ?_
  first | (refine RS.q rfl (QO.load ty3 (by rfl) (by repeat (first | exact List.Mem.head _ | refine List.Mem.tail _ ?_)) (by rfl)) ?_) | (refine RS.q rfl (QO.loadO ty3 (by rfl) (by assumption)) ?_) | (refine RS.q rfl (QO.load ty3 (by rfl) (by repeat (first | exact List.Mem.head _ | refine List.Mem.tail _ ?_)) (by assumption)) ?_)
  first | (refine RS.q rfl (QO.add (by rfl) (by rfl) (by omega) (by omega)) ?_) | (refine RS.q rfl (QO.ibin (by rfl) (by rfl) trivial) ?_)
  refine RS.q rfl (QO.min2 (by rfl) (by rfl)) ?_
  refine RS.q rfl (QO.move) ?_
  first | (refine RS.q rfl (QO.sub (by rfl) (by rfl) (by omega) (by omega)) ?_) | (refine RS.q rfl (QO.ibin (by rfl) (by rfl) trivial) ?_)
  refine RS.qv rfl (QO.build ty23 pl23 (by rfl)) ((show _ = Value.agg #[iv (max ax bx), iv (max ay bz), iv (min (ax + aw) (bx + bw) - max ax bx), iv (min (ay + ah) (bz + bh) - max ay bz)] from rfl)) ?_
  refine RS.alloc rfl ty23 ?_
  intro g8
  first | refine RS.storeB ty23 (by rfl) (by rfl) (by rfl) (by rfl) (by rfl) (by repeat (first | exact Upd.head | apply Upd.tail)) (by rfl) ?_ | refine RS.storeP ty23 (by rfl) (by rfl) (by rfl) (by rfl) (by rfl) (by repeat (first | exact Upd.head | apply Upd.tail)) (by rfl) ?_
  refine RS.nil ?_
  refine thenC_n ?_
  refine CS.seq ?_
  refine CS.seq ?_
  refine CS.region ?_
  refine RS.q rfl (QO.fieldAddr fo23_2 (by rfl)) ?_
  first | (refine RS.q rfl (QO.load ty3 (by rfl) (by repeat (first | exact List.Mem.head _ | refine List.Mem.tail _ ?_)) (by rfl)) ?_) | (refine RS.q rfl (QO.loadO ty3 (by rfl) (by assumption)) ?_) | (refine RS.q rfl (QO.load ty3 (by rfl) (by repeat (first | exact List.Mem.head _ | refine List.Mem.tail _ ?_)) (by assumption)) ?_)
  refine RS.q rfl (QO.lss (by rfl) (by rfl)) ?_
  refine RS.q rfl (QO.move) ?_
  refine RS.split (dj := 51) (by rfl) (fun hb0 => ?_) (fun hb0 => ?_)
  · have hb0p := of_decide_eq_true hb0
    refine RS.off (dj := 51) rfl (.inl (congrArg Value.bool hb0)) (fun _ => rfl) rfl ?_
    refine RS.off (dj := 51) rfl (.inl (congrArg Value.bool hb0)) (fun _ => rfl) rfl ?_
    refine RS.off (dj := 51) rfl (.inl (congrArg Value.bool hb0)) (fun _ => rfl) rfl ?_
    refine RS.q rfl (QO.pickT (by rfl) hb0 (by rfl)) ?_
    refine RS.nil ?_
    refine thenC_n ?_
    refine CS.condT (by rfl) rfl ?_
    refine CS.seq ?_
    refine CS.region ?_
    refine RS.q rfl (QO.build ty23 pl23 (by rfl)) ?_
    first | refine RS.storeB ty23 (by rfl) (by rfl) (by rfl) (by rfl) (by rfl) (by repeat (first | exact Upd.head | apply Upd.tail)) (by rfl) ?_ | refine RS.storeP ty23 (by rfl) (by rfl) (by rfl) (by rfl) (by rfl) (by repeat (first | exact Upd.head | apply Upd.tail)) (by rfl) ?_
    refine RS.q rfl (QO.assign) ?_
    refine RS.nil ?_
    refine thenC_n ?_
    refine CS.ret ?_
    refine thenC_r ?_
    refine retQ.mk (H' := []) (.inr rfl) (RVs.cellA ty23 (by rfl) (by repeat (first | exact List.Mem.head _ | refine List.Mem.tail _ ?_)) (by rfl) (RVs.tmp (by rfl) RVs.nil)) (List.nil_sublist _) ?_
    exact ⟨cmv (cm_w hb0p).2.symm (cm_w hb0p).1.symm, rfl⟩
  · have hb0p := of_decide_eq_false hb0
    refine RS.on (dj := 51) rfl (congrArg Value.bool hb0) ?_
    refine RS.q rfl (QO.fieldAddr fo23_3 (by rfl)) ?_
    refine RS.on (dj := 51) rfl (congrArg Value.bool hb0) ?_
    first | (refine RS.q rfl (QO.load ty3 (by rfl) (by repeat (first | exact List.Mem.head _ | refine List.Mem.tail _ ?_)) (by rfl)) ?_) | (refine RS.q rfl (QO.loadO ty3 (by rfl) (by assumption)) ?_) | (refine RS.q rfl (QO.load ty3 (by rfl) (by repeat (first | exact List.Mem.head _ | refine List.Mem.tail _ ?_)) (by assumption)) ?_)
    refine RS.on (dj := 51) rfl (congrArg Value.bool hb0) ?_
    refine RS.q rfl (QO.lss (by rfl) (by rfl)) ?_
    refine RS.q rfl (QO.pickF (by rfl) hb0 (by rfl)) ?_
    refine RS.nil ?_
    refine thenC_n ?_
    refine CS.cond (by rfl) (fun hb1 => ?_) (fun hb1 => ?_)
    · have hb1p := of_decide_eq_true hb1
      refine CS.seq ?_
      refine CS.region ?_
      refine RS.q rfl (QO.build ty23 pl23 (by rfl)) ?_
      first | refine RS.storeB ty23 (by rfl) (by rfl) (by rfl) (by rfl) (by rfl) (by repeat (first | exact Upd.head | apply Upd.tail)) (by rfl) ?_ | refine RS.storeP ty23 (by rfl) (by rfl) (by rfl) (by rfl) (by rfl) (by repeat (first | exact Upd.head | apply Upd.tail)) (by rfl) ?_
      refine RS.q rfl (QO.assign) ?_
      refine RS.nil ?_
      refine thenC_n ?_
      refine CS.ret ?_
      refine thenC_r ?_
      refine retQ.mk (H' := []) (.inr rfl) (RVs.cellA ty23 (by rfl) (by repeat (first | exact List.Mem.head _ | refine List.Mem.tail _ ?_)) (by rfl) (RVs.tmp (by rfl) RVs.nil)) (List.nil_sublist _) ?_
      exact ⟨cmv (cm_h hb1p).2.symm (cm_h hb1p).1.symm, rfl⟩
    · have hb1p := of_decide_eq_false hb1
      refine CS.skip ?_
      refine thenC_n ?_
      refine CS.seq ?_
      refine CS.region ?_
      first | (refine RS.q rfl (QO.loadB ty23 (by rfl) (by repeat (first | exact List.Mem.head _ | refine List.Mem.tail _ ?_)) (by rfl)) ?_) | (refine RS.q rfl (QO.loadA ty23 (by rfl) (by repeat (first | exact List.Mem.head _ | refine List.Mem.tail _ ?_)) (by rfl) (by rfl)) ?_) | (refine RS.q rfl (QO.loadOA ty23 (by rfl) (by assumption) (by rfl)) ?_)
      first | refine RS.storeB ty23 (by rfl) (by rfl) (by rfl) (by rfl) (by rfl) (by repeat (first | exact Upd.head | apply Upd.tail)) (by rfl) ?_ | refine RS.storeP ty23 (by rfl) (by rfl) (by rfl) (by rfl) (by rfl) (by repeat (first | exact Upd.head | apply Upd.tail)) (by rfl) ?_
      refine RS.q rfl (QO.assign) ?_
      refine RS.nil ?_
      refine thenC_n ?_
      refine CS.ret ?_
      refine retQ.mk (H' := []) (.inr rfl) (RVs.cellA ty23 (by rfl) (by repeat (first | exact List.Mem.head _ | refine List.Mem.tail _ ?_)) (by rfl) (RVs.tmp (by rfl) RVs.nil)) (List.nil_sublist _) ?_
      exact ⟨cmv (cm_ok hb0p hb1p).2.symm (cm_ok hb0p hb1p).1.symm, rfl⟩

theorem common_tile (X Y : Int) (w h s i j : Nat) (W : World) (hs : 1 ≤ s) (hs2 : s ≤ 256) (hw : 1 ≤ w ∧ w ≤ 256) (hh : 1 ≤ h ∧ h ≤ 256) (hX : -1048576 ≤ X ∧ X ≤ 1048576) (hY : -1048576 ≤ Y ∧ Y ≤ 1048576) (hi : i < cntI X w s) (hj : j < cntI Y h s) : Fn_ Try.prog 94 #[.agg #[iv X, iv Y, iv (w : Int), iv (h : Int)], .agg #[iv (X - (px X s : Nat) + ((s * i : Nat) : Int)), iv (Y - (px Y s : Nat) + ((s * j : Nat) : Int)), iv (s : Int), iv (s : Int)]] W (fun v H => v = .tuple #[.agg (rgc (tile X Y w h s i j)).toArray, .bool true] ∧ H = []) := by
  have h1 := (cntI_iff hs).1 hi
  have h2 := (cntI_iff hs).1 hj
  have h3 := (px_eq (X := X) hs).2
  have h4 := (px_eq (X := Y) hs).2
  refine (common_ _ _ _ _ _ _ _ _ W (by omega) (by omega) (by omega) (by omega) (by omega) (by omega) (by omega) (by omega)).mono fun v H h => ?_
  obtain ⟨rfl, rfl⟩ := h
  obtain ⟨h5, h6⟩ := cm_tile (X := X) (Y := Y) hs hw.1 hh.1 hi hj
  exact ⟨by rw [h5, h6], rfl⟩

set_option maxRecDepth 100000 in
theorem inside (ax ay aw ah bx bz bw bh : Int) (W : World) (h0 : -1000000000 ≤ ax ∧ ax ≤ 1000000000) (h00 : -1000000000 ≤ ay ∧ ay ≤ 1000000000) (h1 : -1000000000 ≤ bx ∧ bx ≤ 1000000000) (h2 : -1000000000 ≤ bz ∧ bz ≤ 1000000000) (h3 : -1000000000 ≤ bw ∧ bw ≤ 1000000000) (h4 : -1000000000 ≤ bh ∧ bh ≤ 1000000000) (h5 : -1000000000 ≤ aw ∧ aw ≤ 1000000000) (h6 : -1000000000 ≤ ah ∧ ah ≤ 1000000000) : Fn_ Try.prog 95 #[.agg #[iv ax, iv ay, iv aw, iv ah], .agg #[iv bx, iv bz, iv bw, iv bh]] W (fun v H => v = .bool (insB ax ay aw ah bx bz bw bh) ∧ H = []) := by
  refine Fn_.intro Try.func95 rfl rfl (by rfl) ?_
  refine CS.seq ?_
  refine CS.region ?_
  refine RS.box rfl (by rfl) (by rfl) ?_
  intro g2
  refine RS.box rfl (by rfl) (by rfl) ?_
  intro g3
  refine RS.q rfl (QO.assign) ?_
  refine RS.nil ?_
  refine thenC_n ?_
  refine CS.seq ?_
  refine CS.region ?_
  refine RS.q rfl (QO.fieldAddr fo23_0 (by rfl)) ?_
  first | (refine RS.q rfl (QO.load ty3 (by rfl) (by repeat (first | exact List.Mem.head _ | refine List.Mem.tail _ ?_)) (by rfl)) ?_) | (refine RS.q rfl (QO.loadO ty3 (by rfl) (by assumption)) ?_) | (refine RS.q rfl (QO.load ty3 (by rfl) (by repeat (first | exact List.Mem.head _ | refine List.Mem.tail _ ?_)) (by assumption)) ?_)
  refine RS.q rfl (QO.fieldAddr fo23_0 (by rfl)) ?_
  first | (refine RS.q rfl (QO.load ty3 (by rfl) (by repeat (first | exact List.Mem.head _ | refine List.Mem.tail _ ?_)) (by rfl)) ?_) | (refine RS.q rfl (QO.loadO ty3 (by rfl) (by assumption)) ?_) | (refine RS.q rfl (QO.load ty3 (by rfl) (by repeat (first | exact List.Mem.head _ | refine List.Mem.tail _ ?_)) (by assumption)) ?_)
  refine RS.q rfl (QO.geq (by rfl) (by rfl)) ?_
  refine RS.q rfl (QO.move) ?_
  refine RS.split (dj := 10) (by rfl) (fun hb0 => ?_) (fun hb0 => ?_)
  · have hb0p := of_decide_eq_true hb0
    refine RS.on (dj := 10) rfl (congrArg Value.bool hb0) ?_
    refine RS.q rfl (QO.fieldAddr fo23_1 (by rfl)) ?_
    refine RS.on (dj := 10) rfl (congrArg Value.bool hb0) ?_
    first | (refine RS.q rfl (QO.load ty3 (by rfl) (by repeat (first | exact List.Mem.head _ | refine List.Mem.tail _ ?_)) (by rfl)) ?_) | (refine RS.q rfl (QO.loadO ty3 (by rfl) (by assumption)) ?_) | (refine RS.q rfl (QO.load ty3 (by rfl) (by repeat (first | exact List.Mem.head _ | refine List.Mem.tail _ ?_)) (by assumption)) ?_)
    refine RS.on (dj := 10) rfl (congrArg Value.bool hb0) ?_
    refine RS.q rfl (QO.fieldAddr fo23_1 (by rfl)) ?_
    refine RS.on (dj := 10) rfl (congrArg Value.bool hb0) ?_
    first | (refine RS.q rfl (QO.load ty3 (by rfl) (by repeat (first | exact List.Mem.head _ | refine List.Mem.tail _ ?_)) (by rfl)) ?_) | (refine RS.q rfl (QO.loadO ty3 (by rfl) (by assumption)) ?_) | (refine RS.q rfl (QO.load ty3 (by rfl) (by repeat (first | exact List.Mem.head _ | refine List.Mem.tail _ ?_)) (by assumption)) ?_)
    refine RS.on (dj := 10) rfl (congrArg Value.bool hb0) ?_
    refine RS.q rfl (QO.geq (by rfl) (by rfl)) ?_
    refine RS.q rfl (QO.pickT (by rfl) hb0 (by rfl)) ?_
    refine RS.q rfl (QO.move) ?_
    refine RS.split (dj := 17) (by rfl) (fun hb1 => ?_) (fun hb1 => ?_)
    · have hb1p := of_decide_eq_true hb1
      refine RS.on (dj := 17) rfl (congrArg Value.bool hb1) ?_
      refine RS.q rfl (QO.fieldAddr fo23_0 (by rfl)) ?_
      refine RS.on (dj := 17) rfl (congrArg Value.bool hb1) ?_
      first | (refine RS.q rfl (QO.load ty3 (by rfl) (by repeat (first | exact List.Mem.head _ | refine List.Mem.tail _ ?_)) (by rfl)) ?_) | (refine RS.q rfl (QO.loadO ty3 (by rfl) (by assumption)) ?_) | (refine RS.q rfl (QO.load ty3 (by rfl) (by repeat (first | exact List.Mem.head _ | refine List.Mem.tail _ ?_)) (by assumption)) ?_)
      refine RS.on (dj := 17) rfl (congrArg Value.bool hb1) ?_
      refine RS.q rfl (QO.fieldAddr fo23_2 (by rfl)) ?_
      refine RS.on (dj := 17) rfl (congrArg Value.bool hb1) ?_
      first | (refine RS.q rfl (QO.load ty3 (by rfl) (by repeat (first | exact List.Mem.head _ | refine List.Mem.tail _ ?_)) (by rfl)) ?_) | (refine RS.q rfl (QO.loadO ty3 (by rfl) (by assumption)) ?_) | (refine RS.q rfl (QO.load ty3 (by rfl) (by repeat (first | exact List.Mem.head _ | refine List.Mem.tail _ ?_)) (by assumption)) ?_)
      refine RS.on (dj := 17) rfl (congrArg Value.bool hb1) ?_
      first | (refine RS.q rfl (QO.add (by rfl) (by rfl) (by omega) (by omega)) ?_) | (refine RS.q rfl (QO.ibin (by rfl) (by rfl) trivial) ?_)
      refine RS.on (dj := 17) rfl (congrArg Value.bool hb1) ?_
      refine RS.q rfl (QO.fieldAddr fo23_0 (by rfl)) ?_
      refine RS.on (dj := 17) rfl (congrArg Value.bool hb1) ?_
      first | (refine RS.q rfl (QO.load ty3 (by rfl) (by repeat (first | exact List.Mem.head _ | refine List.Mem.tail _ ?_)) (by rfl)) ?_) | (refine RS.q rfl (QO.loadO ty3 (by rfl) (by assumption)) ?_) | (refine RS.q rfl (QO.load ty3 (by rfl) (by repeat (first | exact List.Mem.head _ | refine List.Mem.tail _ ?_)) (by assumption)) ?_)
      refine RS.on (dj := 17) rfl (congrArg Value.bool hb1) ?_
      refine RS.q rfl (QO.fieldAddr fo23_2 (by rfl)) ?_
      refine RS.on (dj := 17) rfl (congrArg Value.bool hb1) ?_
      first | (refine RS.q rfl (QO.load ty3 (by rfl) (by repeat (first | exact List.Mem.head _ | refine List.Mem.tail _ ?_)) (by rfl)) ?_) | (refine RS.q rfl (QO.loadO ty3 (by rfl) (by assumption)) ?_) | (refine RS.q rfl (QO.load ty3 (by rfl) (by repeat (first | exact List.Mem.head _ | refine List.Mem.tail _ ?_)) (by assumption)) ?_)
      refine RS.on (dj := 17) rfl (congrArg Value.bool hb1) ?_
      first | (refine RS.q rfl (QO.add (by rfl) (by rfl) (by omega) (by omega)) ?_) | (refine RS.q rfl (QO.ibin (by rfl) (by rfl) trivial) ?_)
      refine RS.on (dj := 17) rfl (congrArg Value.bool hb1) ?_
      refine RS.q rfl (QO.leq (by rfl) (by rfl)) ?_
      refine RS.q rfl (QO.pickT (by rfl) hb1 (by rfl)) ?_
      refine RS.q rfl (QO.move) ?_
      refine RS.split (dj := 30) (by rfl) (fun hb2 => ?_) (fun hb2 => ?_)
      · have hb2p := of_decide_eq_true hb2
        refine RS.on (dj := 30) rfl (congrArg Value.bool hb2) ?_
        refine RS.q rfl (QO.fieldAddr fo23_1 (by rfl)) ?_
        refine RS.on (dj := 30) rfl (congrArg Value.bool hb2) ?_
        first | (refine RS.q rfl (QO.load ty3 (by rfl) (by repeat (first | exact List.Mem.head _ | refine List.Mem.tail _ ?_)) (by rfl)) ?_) | (refine RS.q rfl (QO.loadO ty3 (by rfl) (by assumption)) ?_) | (refine RS.q rfl (QO.load ty3 (by rfl) (by repeat (first | exact List.Mem.head _ | refine List.Mem.tail _ ?_)) (by assumption)) ?_)
        refine RS.on (dj := 30) rfl (congrArg Value.bool hb2) ?_
        refine RS.q rfl (QO.fieldAddr fo23_3 (by rfl)) ?_
        refine RS.on (dj := 30) rfl (congrArg Value.bool hb2) ?_
        first | (refine RS.q rfl (QO.load ty3 (by rfl) (by repeat (first | exact List.Mem.head _ | refine List.Mem.tail _ ?_)) (by rfl)) ?_) | (refine RS.q rfl (QO.loadO ty3 (by rfl) (by assumption)) ?_) | (refine RS.q rfl (QO.load ty3 (by rfl) (by repeat (first | exact List.Mem.head _ | refine List.Mem.tail _ ?_)) (by assumption)) ?_)
        refine RS.on (dj := 30) rfl (congrArg Value.bool hb2) ?_
        first | (refine RS.q rfl (QO.add (by rfl) (by rfl) (by omega) (by omega)) ?_) | (refine RS.q rfl (QO.ibin (by rfl) (by rfl) trivial) ?_)
        refine RS.on (dj := 30) rfl (congrArg Value.bool hb2) ?_
        refine RS.q rfl (QO.fieldAddr fo23_1 (by rfl)) ?_
        refine RS.on (dj := 30) rfl (congrArg Value.bool hb2) ?_
        first | (refine RS.q rfl (QO.load ty3 (by rfl) (by repeat (first | exact List.Mem.head _ | refine List.Mem.tail _ ?_)) (by rfl)) ?_) | (refine RS.q rfl (QO.loadO ty3 (by rfl) (by assumption)) ?_) | (refine RS.q rfl (QO.load ty3 (by rfl) (by repeat (first | exact List.Mem.head _ | refine List.Mem.tail _ ?_)) (by assumption)) ?_)
        refine RS.on (dj := 30) rfl (congrArg Value.bool hb2) ?_
        refine RS.q rfl (QO.fieldAddr fo23_3 (by rfl)) ?_
        refine RS.on (dj := 30) rfl (congrArg Value.bool hb2) ?_
        first | (refine RS.q rfl (QO.load ty3 (by rfl) (by repeat (first | exact List.Mem.head _ | refine List.Mem.tail _ ?_)) (by rfl)) ?_) | (refine RS.q rfl (QO.loadO ty3 (by rfl) (by assumption)) ?_) | (refine RS.q rfl (QO.load ty3 (by rfl) (by repeat (first | exact List.Mem.head _ | refine List.Mem.tail _ ?_)) (by assumption)) ?_)
        refine RS.on (dj := 30) rfl (congrArg Value.bool hb2) ?_
        first | (refine RS.q rfl (QO.add (by rfl) (by rfl) (by omega) (by omega)) ?_) | (refine RS.q rfl (QO.ibin (by rfl) (by rfl) trivial) ?_)
        refine RS.on (dj := 30) rfl (congrArg Value.bool hb2) ?_
        refine RS.q rfl (QO.leq (by rfl) (by rfl)) ?_
        refine RS.q rfl (QO.pickT (by rfl) hb2 (by rfl)) ?_
        refine RS.q rfl (QO.assign) ?_
        refine RS.nil ?_
        refine thenC_n ?_
        refine CS.ret ?_
        refine retQ.mk (H' := []) (.inr rfl) (RVs.tmp (by rfl) RVs.nil) (List.nil_sublist _) ?_
        exact ⟨congrArg Value.bool (by unfold insB; first | exact (decide_eq_false (by omega)).symm | exact decide_eq_decide.2 (by omega)), rfl⟩
      · have hb2p := of_decide_eq_false hb2
        refine RS.off (dj := 30) rfl (.inl (congrArg Value.bool hb2)) (fun _ => rfl) rfl ?_
        refine RS.off (dj := 30) rfl (.inl (congrArg Value.bool hb2)) (fun _ => rfl) rfl ?_
        refine RS.off (dj := 30) rfl (.inl (congrArg Value.bool hb2)) (fun _ => rfl) rfl ?_
        refine RS.off (dj := 30) rfl (.inl (congrArg Value.bool hb2)) (fun _ => rfl) rfl ?_
        refine RS.off (dj := 30) rfl (.inl (congrArg Value.bool hb2)) (fun _ => rfl) rfl ?_
        refine RS.off (dj := 30) rfl (.inl (congrArg Value.bool hb2)) (fun _ => rfl) rfl ?_
        refine RS.off (dj := 30) rfl (.inl (congrArg Value.bool hb2)) (fun _ => rfl) rfl ?_
        refine RS.off (dj := 30) rfl (.inl (congrArg Value.bool hb2)) (fun _ => rfl) rfl ?_
        refine RS.off (dj := 30) rfl (.inl (congrArg Value.bool hb2)) (fun _ => rfl) rfl ?_
        refine RS.off (dj := 30) rfl (.inl (congrArg Value.bool hb2)) (fun _ => rfl) rfl ?_
        refine RS.off (dj := 30) rfl (.inl (congrArg Value.bool hb2)) (fun _ => rfl) rfl ?_
        refine RS.q rfl (QO.pickF (by rfl) hb2 (by rfl)) ?_
        refine RS.q rfl (QO.assign) ?_
        refine RS.nil ?_
        refine thenC_n ?_
        refine CS.ret ?_
        refine retQ.mk (H' := []) (.inr rfl) (RVs.tmp (by rfl) RVs.nil) (List.nil_sublist _) ?_
        exact ⟨congrArg Value.bool (by unfold insB; first | exact (decide_eq_false (by omega)).symm | exact decide_eq_decide.2 (by omega)), rfl⟩
    · have hb1p := of_decide_eq_false hb1
      refine RS.off (dj := 17) rfl (.inl (congrArg Value.bool hb1)) (fun _ => rfl) rfl ?_
      refine RS.off (dj := 17) rfl (.inl (congrArg Value.bool hb1)) (fun _ => rfl) rfl ?_
      refine RS.off (dj := 17) rfl (.inl (congrArg Value.bool hb1)) (fun _ => rfl) rfl ?_
      refine RS.off (dj := 17) rfl (.inl (congrArg Value.bool hb1)) (fun _ => rfl) rfl ?_
      refine RS.off (dj := 17) rfl (.inl (congrArg Value.bool hb1)) (fun _ => rfl) rfl ?_
      refine RS.off (dj := 17) rfl (.inl (congrArg Value.bool hb1)) (fun _ => rfl) rfl ?_
      refine RS.off (dj := 17) rfl (.inl (congrArg Value.bool hb1)) (fun _ => rfl) rfl ?_
      refine RS.off (dj := 17) rfl (.inl (congrArg Value.bool hb1)) (fun _ => rfl) rfl ?_
      refine RS.off (dj := 17) rfl (.inl (congrArg Value.bool hb1)) (fun _ => rfl) rfl ?_
      refine RS.off (dj := 17) rfl (.inl (congrArg Value.bool hb1)) (fun _ => rfl) rfl ?_
      refine RS.off (dj := 17) rfl (.inl (congrArg Value.bool hb1)) (fun _ => rfl) rfl ?_
      refine RS.q rfl (QO.pickF (by rfl) hb1 (by rfl)) ?_
      refine RS.q rfl (QO.move) ?_
      refine RS.off (dj := 30) rfl (.inl (congrArg Value.bool rfl)) (fun _ => rfl) rfl ?_
      refine RS.off (dj := 30) rfl (.inl (congrArg Value.bool rfl)) (fun _ => rfl) rfl ?_
      refine RS.off (dj := 30) rfl (.inl (congrArg Value.bool rfl)) (fun _ => rfl) rfl ?_
      refine RS.off (dj := 30) rfl (.inl (congrArg Value.bool rfl)) (fun _ => rfl) rfl ?_
      refine RS.off (dj := 30) rfl (.inl (congrArg Value.bool rfl)) (fun _ => rfl) rfl ?_
      refine RS.off (dj := 30) rfl (.inl (congrArg Value.bool rfl)) (fun _ => rfl) rfl ?_
      refine RS.off (dj := 30) rfl (.inl (congrArg Value.bool rfl)) (fun _ => rfl) rfl ?_
      refine RS.off (dj := 30) rfl (.inl (congrArg Value.bool rfl)) (fun _ => rfl) rfl ?_
      refine RS.off (dj := 30) rfl (.inl (congrArg Value.bool rfl)) (fun _ => rfl) rfl ?_
      refine RS.off (dj := 30) rfl (.inl (congrArg Value.bool rfl)) (fun _ => rfl) rfl ?_
      refine RS.off (dj := 30) rfl (.inl (congrArg Value.bool rfl)) (fun _ => rfl) rfl ?_
      refine RS.q rfl (QO.pickF (by rfl) rfl (by rfl)) ?_
      refine RS.q rfl (QO.assign) ?_
      refine RS.nil ?_
      refine thenC_n ?_
      refine CS.ret ?_
      refine retQ.mk (H' := []) (.inr rfl) (RVs.tmp (by rfl) RVs.nil) (List.nil_sublist _) ?_
      exact ⟨congrArg Value.bool (by unfold insB; first | exact (decide_eq_false (by omega)).symm | exact decide_eq_decide.2 (by omega)), rfl⟩
  · have hb0p := of_decide_eq_false hb0
    refine RS.off (dj := 10) rfl (.inl (congrArg Value.bool hb0)) (fun _ => rfl) rfl ?_
    refine RS.off (dj := 10) rfl (.inl (congrArg Value.bool hb0)) (fun _ => rfl) rfl ?_
    refine RS.off (dj := 10) rfl (.inl (congrArg Value.bool hb0)) (fun _ => rfl) rfl ?_
    refine RS.off (dj := 10) rfl (.inl (congrArg Value.bool hb0)) (fun _ => rfl) rfl ?_
    refine RS.off (dj := 10) rfl (.inl (congrArg Value.bool hb0)) (fun _ => rfl) rfl ?_
    refine RS.q rfl (QO.pickF (by rfl) hb0 (by rfl)) ?_
    refine RS.q rfl (QO.move) ?_
    refine RS.off (dj := 17) rfl (.inl (congrArg Value.bool rfl)) (fun _ => rfl) rfl ?_
    refine RS.off (dj := 17) rfl (.inl (congrArg Value.bool rfl)) (fun _ => rfl) rfl ?_
    refine RS.off (dj := 17) rfl (.inl (congrArg Value.bool rfl)) (fun _ => rfl) rfl ?_
    refine RS.off (dj := 17) rfl (.inl (congrArg Value.bool rfl)) (fun _ => rfl) rfl ?_
    refine RS.off (dj := 17) rfl (.inl (congrArg Value.bool rfl)) (fun _ => rfl) rfl ?_
    refine RS.off (dj := 17) rfl (.inl (congrArg Value.bool rfl)) (fun _ => rfl) rfl ?_
    refine RS.off (dj := 17) rfl (.inl (congrArg Value.bool rfl)) (fun _ => rfl) rfl ?_
    refine RS.off (dj := 17) rfl (.inl (congrArg Value.bool rfl)) (fun _ => rfl) rfl ?_
    refine RS.off (dj := 17) rfl (.inl (congrArg Value.bool rfl)) (fun _ => rfl) rfl ?_
    refine RS.off (dj := 17) rfl (.inl (congrArg Value.bool rfl)) (fun _ => rfl) rfl ?_
    refine RS.off (dj := 17) rfl (.inl (congrArg Value.bool rfl)) (fun _ => rfl) rfl ?_
    refine RS.q rfl (QO.pickF (by rfl) rfl (by rfl)) ?_
    refine RS.q rfl (QO.move) ?_
    refine RS.off (dj := 30) rfl (.inl (congrArg Value.bool rfl)) (fun _ => rfl) rfl ?_
    refine RS.off (dj := 30) rfl (.inl (congrArg Value.bool rfl)) (fun _ => rfl) rfl ?_
    refine RS.off (dj := 30) rfl (.inl (congrArg Value.bool rfl)) (fun _ => rfl) rfl ?_
    refine RS.off (dj := 30) rfl (.inl (congrArg Value.bool rfl)) (fun _ => rfl) rfl ?_
    refine RS.off (dj := 30) rfl (.inl (congrArg Value.bool rfl)) (fun _ => rfl) rfl ?_
    refine RS.off (dj := 30) rfl (.inl (congrArg Value.bool rfl)) (fun _ => rfl) rfl ?_
    refine RS.off (dj := 30) rfl (.inl (congrArg Value.bool rfl)) (fun _ => rfl) rfl ?_
    refine RS.off (dj := 30) rfl (.inl (congrArg Value.bool rfl)) (fun _ => rfl) rfl ?_
    refine RS.off (dj := 30) rfl (.inl (congrArg Value.bool rfl)) (fun _ => rfl) rfl ?_
    refine RS.off (dj := 30) rfl (.inl (congrArg Value.bool rfl)) (fun _ => rfl) rfl ?_
    refine RS.off (dj := 30) rfl (.inl (congrArg Value.bool rfl)) (fun _ => rfl) rfl ?_
    refine RS.q rfl (QO.pickF (by rfl) rfl (by rfl)) ?_
    refine RS.q rfl (QO.assign) ?_
    refine RS.nil ?_
    refine thenC_n ?_
    refine CS.ret ?_
    refine retQ.mk (H' := []) (.inr rfl) (RVs.tmp (by rfl) RVs.nil) (List.nil_sublist _) ?_
    exact ⟨congrArg Value.bool (by unfold insB; first | exact (decide_eq_false (by omega)).symm | exact decide_eq_decide.2 (by omega)), rfl⟩

def tErr (x y w h side : Int) : Int := if regErr x y w h ≠ 0 then regErr x y w h else if side < 1 ∨ 256 < side then 3 else 0
def tL (x y w h side : Int) : List Rg := if tErr x y w h side = 0 then rowsL x y w.toNat h.toNat side.toNat (cntI y h.toNat side.toNat) else []
theorem t_1 {x y w h side : Int} (h1 : regErr x y w h ≠ 0) : tErr x y w h side = regErr x y w h ∧ tL x y w h side = [] := by
  have h2 : tErr x y w h side = regErr x y w h := if_pos h1
  exact ⟨h2, by unfold tL; rw [h2]; exact if_neg h1⟩
theorem t_2 {x y w h side : Int} (h1 : regErr x y w h = 0) (hs : side < 1 ∨ 256 < side) : tErr x y w h side = 3 ∧ tL x y w h side = [] := by
  have h2 : tErr x y w h side = 3 := by unfold tErr; rw [if_neg (Decidable.not_not.2 h1), if_pos hs]
  exact ⟨h2, by unfold tL; rw [h2]; rfl⟩
theorem t_3 {x y : Int} {w h s : Nat} (h1 : regErr x y w h = 0) (hs : ¬ ((s : Int) < 1 ∨ 256 < (s : Int))) : tErr x y w h s = 0 ∧ tL x y w h s = rowsL x y w h s (cntI y h s) := by
  have h2 : tErr x y w h s = 0 := by unfold tErr; rw [if_neg (Decidable.not_not.2 h1), if_neg hs]
  exact ⟨h2, by unfold tL; rw [h2]; rfl⟩

set_option maxRecDepth 100000 in
theorem tiles (x y wi he side : Int) (W : World) : Fn_ Try.prog 34 #[.agg #[iv x, iv y, iv wi, iv he], iv side] W (fun v H => ∃ vs, v = .tuple #[vs, iv (tErr x y wi he side)] ∧ Row 23 4 vs (tL x y wi he side).length (rgs (tL x y wi he side)) H) := by
  refine Fn_.intro Try.func34 rfl rfl (by rfl) ?_
  refine CS.seq ?_
  refine CS.region ?_
  refine RS.box rfl (by rfl) (by rfl) ?_
  intro g2
  refine RS.q rfl (QO.assign) ?_
  refine RS.q rfl (QO.assign) ?_
  refine RS.nil ?_
  refine thenC_n ?_
  refine CS.seq ?_
  refine CS.seq ?_
  refine CS.region ?_
  first | (refine RS.q rfl (QO.loadB ty23 (by rfl) (by repeat (first | exact List.Mem.head _ | refine List.Mem.tail _ ?_)) (by rfl)) ?_) | (refine RS.q rfl (QO.loadA ty23 (by rfl) (by repeat (first | exact List.Mem.head _ | refine List.Mem.tail _ ?_)) (by rfl) (by rfl)) ?_) | (refine RS.q rfl (QO.loadOA ty23 (by rfl) (by assumption) (by rfl)) ?_)
  refine RS.call rfl (by rfl) ok89 (by rfl) (fun w ho => checkRegion _ _ _ _ _) ?_
  rintro _ _ ⟨rfl, rfl⟩
  refine RS.q rfl (QO.assign) ?_
  refine RS.nil ?_
  refine thenC_n ?_
  refine CS.seq ?_
  refine CS.region ?_
  refine RS.q rfl (QO.move) ?_
  refine RS.q rfl (QO.neq (by rfl) (by rfl)) ?_
  refine RS.nil ?_
  refine thenC_n ?_
  refine CS.cond (by rfl) (fun hb0 => ?_) (fun hb0 => ?_)
  · have hb0p := bne_iff_ne.1 hb0
    refine CS.seq ?_
    refine CS.region ?_
    refine RS.q rfl (QO.move) ?_
    refine RS.q rfl (QO.assign) ?_
    refine RS.q rfl (QO.assign) ?_
    refine RS.nil ?_
    refine thenC_n ?_
    refine CS.ret ?_
    refine thenC_r ?_
    refine retQ.mk (H' := []) (.inr rfl) (RVs.tmp (by rfl) (RVs.tmp (by rfl) RVs.nil)) (List.nil_sublist _) ?_
    exact ⟨.slice none 0 0, tv (t_1 hb0p).1.symm, trow_nil (t_1 hb0p).2⟩
  · have hb0p := of_bne_false hb0
    refine CS.skip ?_
    refine thenC_n ?_
    refine CS.seq ?_
    refine CS.seq ?_
    refine CS.region ?_
    refine RS.q rfl (QO.move) ?_
    refine RS.q rfl (QO.lss (by rfl) (by rfl)) ?_
    refine RS.q rfl (QO.move) ?_
    refine RS.split (dj := 23) (by rfl) (fun hb1 => ?_) (fun hb1 => ?_)
    · have hb1p := of_decide_eq_true hb1
      refine RS.off (dj := 23) rfl (.inl (congrArg Value.bool hb1)) (fun _ => rfl) rfl ?_
      refine RS.off (dj := 23) rfl (.inl (congrArg Value.bool hb1)) (fun _ => rfl) rfl ?_
      refine RS.q rfl (QO.pickT (by rfl) hb1 (by rfl)) ?_
      refine RS.nil ?_
      refine thenC_n ?_
      refine CS.condT (by rfl) rfl ?_
      refine CS.seq ?_
      refine CS.region ?_
      refine RS.q rfl (QO.assign) ?_
      refine RS.q rfl (QO.assign) ?_
      refine RS.nil ?_
      refine thenC_n ?_
      refine CS.ret ?_
      refine thenC_r ?_
      refine retQ.mk (H' := []) (.inr rfl) (RVs.tmp (by rfl) (RVs.tmp (by rfl) RVs.nil)) (List.nil_sublist _) ?_
      exact ⟨.slice none 0 0, tv (t_2 (of_bne_false hb0) (by omega)).1.symm, trow_nil (t_2 (of_bne_false hb0) (by omega)).2⟩
    · have hb1p := of_decide_eq_false hb1
      refine RS.on (dj := 23) rfl (congrArg Value.bool hb1) ?_
      refine RS.q rfl (QO.move) ?_
      refine RS.on (dj := 23) rfl (congrArg Value.bool hb1) ?_
      refine RS.q rfl (QO.gtr (by rfl) (by rfl)) ?_
      refine RS.q rfl (QO.pickF (by rfl) hb1 (by rfl)) ?_
      refine RS.nil ?_
      refine thenC_n ?_
      refine CS.cond (by rfl) (fun hb2 => ?_) (fun hb2 => ?_)
      · have hb2p := of_decide_eq_true hb2
        refine CS.seq ?_
        refine CS.region ?_
        refine RS.q rfl (QO.assign) ?_
        refine RS.q rfl (QO.assign) ?_
        refine RS.nil ?_
        refine thenC_n ?_
        refine CS.ret ?_
        refine thenC_r ?_
        refine retQ.mk (H' := []) (.inr rfl) (RVs.tmp (by rfl) (RVs.tmp (by rfl) RVs.nil)) (List.nil_sublist _) ?_
        exact ⟨.slice none 0 0, tv (t_2 (of_bne_false hb0) (by omega)).1.symm, trow_nil (t_2 (of_bne_false hb0) (by omega)).2⟩
      · have hb2p := of_decide_eq_false hb2
        refine CS.skip ?_
        refine thenC_n ?_
        refine CS.seq ?_
        refine CS.region ?_
        refine RS.q rfl (QO.assign) ?_
        refine RS.nil ?_
        refine thenC_n ?_
        refine CS.seq ?_
        refine CS.region ?_
        have hr0 := of_bne_false hb0
        have hro := regErr_ok hr0
        obtain ⟨ww, rfl⟩ : ∃ ww : Nat, wi = ww := ⟨wi.toNat, by omega⟩
        obtain ⟨hh, rfl⟩ : ∃ hh : Nat, he = hh := ⟨he.toNat, by omega⟩
        obtain ⟨s, rfl⟩ : ∃ s : Nat, side = s := ⟨side.toNat, by omega⟩
        have hs : 1 ≤ s := by omega
        have hpx := px_eq (X := x) hs
        have hpy := px_eq (X := y) hs
        refine RS.q rfl (QO.fieldAddr fo23_0 (by rfl)) ?_
        first | (refine RS.q rfl (QO.load ty3 (by rfl) (by repeat (first | exact List.Mem.head _ | refine List.Mem.tail _ ?_)) (by rfl)) ?_) | (refine RS.q rfl (QO.loadO ty3 (by rfl) (by assumption)) ?_) | (refine RS.q rfl (QO.load ty3 (by rfl) (by repeat (first | exact List.Mem.head _ | refine List.Mem.tail _ ?_)) (by assumption)) ?_)
        refine RS.q rfl (QO.move) ?_
        refine RS.call rfl (by rfl) ok93 (by rfl) (fun w ho => floorDiv x s _ hs (by omega) (by omega)) ?_
        rintro _ _ ⟨rfl, rfl⟩
        refine RS.q rfl (QO.move) ?_
        refine RS.q rfl (QO.extract (by rfl) (by rfl)) ?_
        refine RS.qv rfl (QO.extract (by rfl) (by rfl)) (congrArg iv hpx.1.symm) ?_
        refine RS.q rfl (QO.assign) ?_
        refine RS.q rfl (QO.assign) ?_
        refine RS.nil ?_
        refine thenC_n ?_
        refine CS.seq ?_
        refine CS.region ?_
        refine RS.q rfl (QO.fieldAddr fo23_1 (by rfl)) ?_
        first | (refine RS.q rfl (QO.load ty3 (by rfl) (by repeat (first | exact List.Mem.head _ | refine List.Mem.tail _ ?_)) (by rfl)) ?_) | (refine RS.q rfl (QO.loadO ty3 (by rfl) (by assumption)) ?_) | (refine RS.q rfl (QO.load ty3 (by rfl) (by repeat (first | exact List.Mem.head _ | refine List.Mem.tail _ ?_)) (by assumption)) ?_)
        refine RS.q rfl (QO.move) ?_
        refine RS.call rfl (by rfl) ok93 (by rfl) (fun w ho => floorDiv y s _ hs (by omega) (by omega)) ?_
        rintro _ _ ⟨rfl, rfl⟩
        refine RS.q rfl (QO.move) ?_
        refine RS.q rfl (QO.extract (by rfl) (by rfl)) ?_
        refine RS.qv rfl (QO.extract (by rfl) (by rfl)) (congrArg iv hpy.1.symm) ?_
        refine RS.q rfl (QO.assign) ?_
        refine RS.q rfl (QO.assign) ?_
        refine RS.nil ?_
        refine thenC_n ?_
        refine CS.seq ?_
        refine CS.seq ?_
        refine CS.region ?_
        refine RS.q rfl (QO.fieldAddr fo23_1 (by rfl)) ?_
        first | (refine RS.q rfl (QO.load ty3 (by rfl) (by repeat (first | exact List.Mem.head _ | refine List.Mem.tail _ ?_)) (by rfl)) ?_) | (refine RS.q rfl (QO.loadO ty3 (by rfl) (by assumption)) ?_) | (refine RS.q rfl (QO.load ty3 (by rfl) (by repeat (first | exact List.Mem.head _ | refine List.Mem.tail _ ?_)) (by assumption)) ?_)
        refine RS.q rfl (QO.move) ?_
        first | (refine RS.q rfl (QO.sub (by rfl) (by rfl) (by omega) (by omega)) ?_) | (refine RS.q rfl (QO.ibin (by rfl) (by rfl) trivial) ?_)
        refine RS.q rfl (QO.assign) ?_
        refine RS.nil ?_
        refine thenC_n ?_
        refine CS.block ?_
        refine CS.loop (X := Nat × Value × HL) (7 :: 12 :: 13 :: 14 :: 15 :: 45 :: 46 :: 47 :: 48 :: 49 :: 50 :: 51 :: 52 :: 53 :: 54 :: 55 :: 56 :: 57 :: 58 :: 59 :: 60 :: 61 :: 62 :: 63 :: 64 :: 65 :: 66 :: 67 :: 68 :: 69 :: 70 :: 71 :: 72 :: 73 :: 74 :: 75 :: 76 :: 77 :: 78 :: 79 :: 80 :: 81 :: 82 :: 83 :: []) (fun z => [(12, iv (y - (px y s : Nat) + ((s * z.1 : Nat) : Int))), (7, z.2.1)]) (fun z => ⟨g2, 23, [iv x, iv y, iv (ww : Int), iv (hh : Int)]⟩ :: z.2.2) (fun z => z.1 ≤ cntI y hh s ∧ Row 23 4 z.2.1 (rowsL x y ww hh s z.1).length (rgs (rowsL x y ww hh s z.1)) z.2.2) (fun z => cntI y hh s - z.1) (0, .slice none 0 0, []) ⟨Nat.zero_le _, .nil⟩ ?_ ?_ ?_
        · exact kn_cons (congrArg iv (by simp)) (kn_cons (by rfl) kn_nil)
        · exact (by repeat (first | exact List.Sublist.refl _ | exact List.nil_sublist _ | refine List.Sublist.cons_cons _ ?_ | refine List.Sublist.cons _ ?_ | exact Sbp.refl | exact Sbp.nil | refine Sbp.cons (by repeat (first | exact Rem.head | apply Rem.tail)) ?_ | exact Sbp.app | refine Sbp.skip ?_))
        · intro z gj10 hz
          obtain ⟨j, vo, Hr⟩ := z
          obtain ⟨hj, hrow⟩ := hz
          simp only at hj hrow
          have hsj := si_bd (X := y) (w := hh) hs hj
          show CS _ _ _ _ _ (puts (mix _ _ _) [(12, iv (y - (px y s : Nat) + ((s * j : Nat) : Int))), (7, vo)]) (⟨g2, 23, [iv x, iv y, iv (ww : Int), iv (hh : Int)]⟩ :: Hr)
          refine CS.seq ?_
          refine CS.seq ?_
          refine CS.region ?_
          refine RS.q rfl (QO.move) ?_
          refine RS.q rfl (QO.fieldAddr fo23_1 (by rfl)) ?_
          first | (refine RS.q rfl (QO.load ty3 (by rfl) (by repeat (first | exact List.Mem.head _ | refine List.Mem.tail _ ?_)) (by rfl)) ?_) | (refine RS.q rfl (QO.loadO ty3 (by rfl) (by assumption)) ?_) | (refine RS.q rfl (QO.load ty3 (by rfl) (by repeat (first | exact List.Mem.head _ | refine List.Mem.tail _ ?_)) (by assumption)) ?_)
          refine RS.q rfl (QO.fieldAddr fo23_3 (by rfl)) ?_
          first | (refine RS.q rfl (QO.load ty3 (by rfl) (by repeat (first | exact List.Mem.head _ | refine List.Mem.tail _ ?_)) (by rfl)) ?_) | (refine RS.q rfl (QO.loadO ty3 (by rfl) (by assumption)) ?_) | (refine RS.q rfl (QO.load ty3 (by rfl) (by repeat (first | exact List.Mem.head _ | refine List.Mem.tail _ ?_)) (by assumption)) ?_)
          first | (refine RS.q rfl (QO.add (by rfl) (by rfl) (by omega) (by omega)) ?_) | (refine RS.q rfl (QO.ibin (by rfl) (by rfl) trivial) ?_)
          refine RS.q rfl (QO.lss (by rfl) (by rfl)) ?_
          refine RS.nil ?_
          refine thenC_n ?_
          refine CS.cond (by rfl) (fun hb3 => ?_) (fun hb3 => ?_)
          · have hb3p := of_decide_eq_true hb3
            refine CS.skip ?_
            refine thenC_n ?_
            refine CS.seq ?_
            refine CS.block ?_
            refine CS.seq ?_
            refine CS.region ?_
            refine RS.q rfl (QO.fieldAddr fo23_0 (by rfl)) ?_
            first | (refine RS.q rfl (QO.load ty3 (by rfl) (by repeat (first | exact List.Mem.head _ | refine List.Mem.tail _ ?_)) (by rfl)) ?_) | (refine RS.q rfl (QO.loadO ty3 (by rfl) (by assumption)) ?_) | (refine RS.q rfl (QO.load ty3 (by rfl) (by repeat (first | exact List.Mem.head _ | refine List.Mem.tail _ ?_)) (by assumption)) ?_)
            refine RS.q rfl (QO.move) ?_
            first | (refine RS.q rfl (QO.sub (by rfl) (by rfl) (by omega) (by omega)) ?_) | (refine RS.q rfl (QO.ibin (by rfl) (by rfl) trivial) ?_)
            refine RS.q rfl (QO.assign) ?_
            refine RS.nil ?_
            refine thenC_n ?_
            refine CS.block ?_
            have hjl : j < cntI y hh s := (cntI_iff hs).2 (by omega)
            have hsjl := (cntI_iff hs).1 hjl
            clear hj
            refine CS.loop (X := Nat × Value × HL) (7 :: 13 :: 14 :: 15 :: 59 :: 60 :: 61 :: 62 :: 63 :: 64 :: 65 :: 66 :: 67 :: 68 :: 69 :: 70 :: 71 :: 72 :: 73 :: 74 :: 75 :: 76 :: 77 :: 78 :: 79 :: 80 :: 81 :: 82 :: 83 :: []) (fun z => [(13, iv (x - (px x s : Nat) + ((s * z.1 : Nat) : Int))), (7, z.2.1)]) (fun z => ⟨g2, 23, [iv x, iv y, iv (ww : Int), iv (hh : Int)]⟩ :: z.2.2) (fun z => z.1 ≤ cntI x ww s ∧ Row 23 4 z.2.1 (tilesL x y ww hh s j z.1).length (rgs (tilesL x y ww hh s j z.1)) z.2.2) (fun z => cntI x ww s - z.1) (0, vo, Hr) ⟨Nat.zero_le _, by rw [tilesL_zero]; exact hrow⟩ ?_ ?_ ?_
            · exact kn_cons (congrArg iv (by simp)) (kn_cons (by rfl) kn_nil)
            · exact (by repeat (first | exact List.Sublist.refl _ | exact List.nil_sublist _ | refine List.Sublist.cons_cons _ ?_ | refine List.Sublist.cons _ ?_ | exact Sbp.refl | exact Sbp.nil | refine Sbp.cons (by repeat (first | exact Rem.head | apply Rem.tail)) ?_ | exact Sbp.app | refine Sbp.skip ?_))
            · intro z gj13 hz
              clear hrow
              obtain ⟨i, vo, Hr⟩ := z
              obtain ⟨hi, hrow⟩ := hz
              simp only at hi hrow
              have hsi0 := si_bd (X := x) (w := ww) hs hi
              show CS _ _ _ _ _ (puts (mix _ _ _) [(13, iv (x - (px x s : Nat) + ((s * i : Nat) : Int))), (7, vo)]) (⟨g2, 23, [iv x, iv y, iv (ww : Int), iv (hh : Int)]⟩ :: Hr)
              refine CS.seq ?_
              refine CS.seq ?_
              refine CS.region ?_
              refine RS.q rfl (QO.move) ?_
              refine RS.q rfl (QO.fieldAddr fo23_0 (by rfl)) ?_
              first | (refine RS.q rfl (QO.load ty3 (by rfl) (by repeat (first | exact List.Mem.head _ | refine List.Mem.tail _ ?_)) (by rfl)) ?_) | (refine RS.q rfl (QO.loadO ty3 (by rfl) (by assumption)) ?_) | (refine RS.q rfl (QO.load ty3 (by rfl) (by repeat (first | exact List.Mem.head _ | refine List.Mem.tail _ ?_)) (by assumption)) ?_)
              refine RS.q rfl (QO.fieldAddr fo23_2 (by rfl)) ?_
              first | (refine RS.q rfl (QO.load ty3 (by rfl) (by repeat (first | exact List.Mem.head _ | refine List.Mem.tail _ ?_)) (by rfl)) ?_) | (refine RS.q rfl (QO.loadO ty3 (by rfl) (by assumption)) ?_) | (refine RS.q rfl (QO.load ty3 (by rfl) (by repeat (first | exact List.Mem.head _ | refine List.Mem.tail _ ?_)) (by assumption)) ?_)
              first | (refine RS.q rfl (QO.add (by rfl) (by rfl) (by omega) (by omega)) ?_) | (refine RS.q rfl (QO.ibin (by rfl) (by rfl) trivial) ?_)
              refine RS.q rfl (QO.lss (by rfl) (by rfl)) ?_
              refine RS.nil ?_
              refine thenC_n ?_
              refine CS.cond (by rfl) (fun hb4 => ?_) (fun hb4 => ?_)
              · have hb4p := of_decide_eq_true hb4
                refine CS.skip ?_
                refine thenC_n ?_
                refine CS.seq ?_
                refine CS.block ?_
                refine CS.seq ?_
                refine CS.region ?_
                have hil : i < cntI x ww s := (cntI_iff hs).2 (by omega)
                have hsi := (cntI_iff hs).1 hil
                first | (refine RS.q rfl (QO.loadB ty23 (by rfl) (by repeat (first | exact List.Mem.head _ | refine List.Mem.tail _ ?_)) (by rfl)) ?_) | (refine RS.q rfl (QO.loadA ty23 (by rfl) (by repeat (first | exact List.Mem.head _ | refine List.Mem.tail _ ?_)) (by rfl) (by rfl)) ?_) | (refine RS.q rfl (QO.loadOA ty23 (by rfl) (by assumption) (by rfl)) ?_)
                refine RS.q rfl (QO.move) ?_
                refine RS.q rfl (QO.move) ?_
                refine RS.q rfl (QO.move) ?_
                refine RS.q rfl (QO.move) ?_
                refine RS.qv rfl (QO.build ty23 pl23 (by rfl)) ((show _ = Value.agg #[iv (x - (px x s : Nat) + ((s * i : Nat) : Int)), iv (y - (px y s : Nat) + ((s * j : Nat) : Int)), iv (s : Int), iv (s : Int)] from rfl)) ?_
                refine RS.call rfl (by rfl) ok94 (by rfl) (fun w ho => common_tile x y ww hh s i j _ hs (by omega) (by omega) (by omega) (by omega) (by omega) hil hjl) ?_
                rintro _ _ ⟨rfl, rfl⟩
                refine RS.q rfl (QO.move) ?_
                refine RS.q rfl (QO.extract (by rfl) (by rfl)) ?_
                refine RS.q rfl (QO.extract (by rfl) (by rfl)) ?_
                refine RS.alloc rfl ty23 ?_
                intro g14
                first | refine RS.storeB ty23 (by rfl) (by rfl) (by rfl) (by rfl) (by rfl) (by repeat (first | exact Upd.head | apply Upd.tail)) (by rfl) ?_ | refine RS.storeP ty23 (by rfl) (by rfl) (by rfl) (by rfl) (by rfl) (by repeat (first | exact Upd.head | apply Upd.tail)) (by rfl) ?_
                refine RS.q rfl (QO.assign) ?_
                refine RS.nil ?_
                refine thenC_n ?_
                refine CS.seq ?_
                refine CS.region ?_
                refine RS.q rfl (QO.move) ?_
                refine RS.nil ?_
                refine thenC_n ?_
                refine CS.condT (by rfl) rfl ?_
                refine CS.region ?_
                have hln := tilesL_len (X := x) (Y := y) (j := j) (i := i) (w := ww) (h := hh) hs (by omega) (by omega) (by omega) (by omega)
                refine RS.q rfl (QO.move) ?_
                first | (refine RS.q rfl (QO.loadB ty23 (by rfl) (by repeat (first | exact List.Mem.head _ | refine List.Mem.tail _ ?_)) (by rfl)) ?_) | (refine RS.q rfl (QO.loadA ty23 (by rfl) (by repeat (first | exact List.Mem.head _ | refine List.Mem.tail _ ?_)) (by rfl) (by rfl)) ?_) | (refine RS.q rfl (QO.loadOA ty23 (by rfl) (by assumption) (by rfl)) ?_)
                refine RS.buildSlice rfl Try.underlying80 ty23 (by decide) (by decide) (by rfl) (by rfl) ?_
                intro g82
                refine RS.appendRow rfl Try.underlying80 ty23 (by rfl) hrow (by repeat (first | exact Suf.base | apply Suf.cons)) (by rfl) (Src.blk (by repeat (first | exact List.Mem.head _ | refine List.Mem.tail _ ?_))) (by rfl) (by rfl) (by decide) (by decide) (by unfold maxLen; omega) (by omega) ?_
                intro v83 H83 hrow83
                refine RS.q rfl (QO.assign) ?_
                refine RS.nil ?_
                refine blockC_n ?_
                refine thenC_n ?_
                refine CS.region ?_
                refine RS.q rfl (QO.move) ?_
                refine RS.q rfl (QO.move) ?_
                first | (refine RS.q rfl (QO.add (by rfl) (by rfl) (by omega) (by omega)) ?_) | (refine RS.q rfl (QO.ibin (by rfl) (by rfl) trivial) ?_)
                refine RS.q rfl (QO.assign) ?_
                refine RS.nil ?_
                refine loopQ_n (by intro t ht; repeat (first | with_reducible exact rfl | exact frame_puts ht (frame_mix ht) _ rfl | (refine frame_put rfl ht ?_) | (refine frame_puts ht ?_ _ rfl) | exact frame_mix ht | (refine frame_mix2 rfl ht ?_) | exact rfl)) ?_
                have hrw : Row 23 4 v83 ((tilesL x y ww hh s j i).length + 1) (rgs (tilesL x y ww hh s j i) ++ rgc (tile x y ww hh s i j)) H83 := hrow83
                exact ⟨(i + 1, v83, H83), ⟨by show i + 1 ≤ cntI x ww s; omega, by show Row 23 4 v83 (tilesL x y ww hh s j (i + 1)).length (rgs (tilesL x y ww hh s j (i + 1))) H83; rw [tilesL_succ, rgs_append, List.length_append]; exact hrw⟩, by show cntI x ww s - (i + 1) < cntI x ww s - i; omega, kn_cons (congrArg iv (by show x - (px x s : Nat) + ((s * i : Nat) : Int) + (s : Int) = x - (px x s : Nat) + ((s * (i + 1) : Nat) : Int); rw [Nat.mul_succ]; omega)) (kn_cons (by rfl) kn_nil), (by repeat (first | exact List.Sublist.refl _ | exact List.nil_sublist _ | refine List.Sublist.cons_cons _ ?_ | refine List.Sublist.cons _ ?_ | exact Sbp.refl | exact Sbp.nil | refine Sbp.cons (by repeat (first | exact Rem.head | apply Rem.tail)) ?_ | exact Sbp.app | refine Sbp.skip ?_))⟩
              · have hb4p := of_decide_eq_false hb4
                refine CS.exit ?_
                refine thenC_x ?_
                refine loopQ_x ?_
                refine blockC_x ?_
                refine blockC_n ?_
                refine thenC_n ?_
                refine CS.region ?_
                refine RS.q rfl (QO.move) ?_
                refine RS.q rfl (QO.move) ?_
                first | (refine RS.q rfl (QO.add (by rfl) (by rfl) (by omega) (by omega)) ?_) | (refine RS.q rfl (QO.ibin (by rfl) (by rfl) trivial) ?_)
                refine RS.q rfl (QO.assign) ?_
                refine RS.nil ?_
                refine loopQ_n (by intro t ht; repeat (first | with_reducible exact rfl | exact frame_puts ht (frame_mix ht) _ rfl | (refine frame_put rfl ht ?_) | (refine frame_puts ht ?_ _ rfl) | exact frame_mix ht | (refine frame_mix2 rfl ht ?_) | exact rfl)) ?_
                have hie : ¬ i < cntI x ww s := fun hi9 => by have := (cntI_iff hs).1 hi9; omega
                have hie2 : i = cntI x ww s := by omega
                rw [hie2, tilesL_row] at hrow
                exact ⟨(j + 1, vo, Hr), ⟨by show j + 1 ≤ cntI y hh s; omega, hrow⟩, by show cntI y hh s - (j + 1) < cntI y hh s - j; omega, kn_cons (congrArg iv (by show y - (px y s : Nat) + ((s * j : Nat) : Int) + (s : Int) = y - (px y s : Nat) + ((s * (j + 1) : Nat) : Int); rw [Nat.mul_succ]; omega)) (kn_cons (by rfl) kn_nil), (by repeat (first | exact List.Sublist.refl _ | exact List.nil_sublist _ | refine List.Sublist.cons_cons _ ?_ | refine List.Sublist.cons _ ?_ | exact Sbp.refl | exact Sbp.nil | refine Sbp.cons (by repeat (first | exact Rem.head | apply Rem.tail)) ?_ | exact Sbp.app | refine Sbp.skip ?_))⟩
          · have hb3p := of_decide_eq_false hb3
            refine CS.exit ?_
            refine thenC_x ?_
            refine loopQ_x ?_
            refine blockC_x ?_
            refine thenC_n ?_
            refine CS.seq ?_
            refine CS.region ?_
            have hje : ¬ j < cntI y hh s := fun hj9 => by have := (cntI_iff hs).1 hj9; omega
            refine RS.q rfl (QO.move) ?_
            refine RS.q rfl (QO.assign) ?_
            refine RS.q rfl (QO.assign) ?_
            refine RS.nil ?_
            refine thenC_n ?_
            refine CS.ret ?_
            refine retQ.mk (H' := Hr) (.inr rfl) (RVs.tmp (by rfl) (RVs.tmp (by rfl) RVs.nil)) (by repeat (first | exact List.Sublist.refl _ | exact List.nil_sublist _ | refine List.Sublist.cons_cons _ ?_ | refine List.Sublist.cons _ ?_ | exact Sbp.refl | exact Sbp.nil | refine Sbp.cons (by repeat (first | exact Rem.head | apply Rem.tail)) ?_ | exact Sbp.app | refine Sbp.skip ?_)) ?_
            have hje2 : j = cntI y hh s := by omega
            rw [hje2] at hrow
            exact ⟨vo, tv (t_3 hr0 (by omega)).1.symm, trow (t_3 hr0 (by omega)).2 hrow⟩

end Go.Proofs.Ytapcgokcfmklbaa

namespace Go.Proofs.Ytapcgokcfmklbaa
open Go Go.RowKit

/-- Called over the caller's own blocks H (those beyond W), f hands back a value and leaves blocks that stand in the relation R. -/
def FnH (P : Program) (f : FuncId) (args : Array Value) (W : World) (H : HL) (R : Value → HL → Prop) : Prop :=
  ∀ w, Own W w H → Calls P f args w (fun x w' => ∃ v H', x = .returned v ∧ Own W w' H' ∧ R v H')
theorem FnH.mono {P : Program} {f : FuncId} {args : Array Value} {W : World} {H : HL} {R R' : Value → HL → Prop} (h : FnH P f args W H R) (hr : ∀ v H, R v H → R' v H) : FnH P f args W H R' :=
  fun w ho => Calls.mono (h w ho) fun _ _ ⟨v, H, h1, h2, h3⟩ => ⟨v, H, h1, h2, hr _ _ h3⟩
theorem FnH.intro {P : Program} {W : World} {f : FuncId} {fn : Func} {c : Code} {n : Nat} {args : Array Value} {H : HL} {R : Value → HL → Prop} (hf : P.funcs[f]? = some fn) (hb : fn.body = some c) (hn : fn.ntmps = n) (hargs : Nat.ble args.size n = true)
    (h : CS P W n c (retQ P fn.results R) (argsE args) H) : FnH P f args W H R := by
  subst hn
  intro w0 ho0
  refine calls_of_wp hf hb (wp_mono (h _ _ (rep_start _ _ (Nat.le_of_ble_eq_true hargs)) ho0) fun x a w hq => ?_)
  obtain ⟨e, H, hr, ho, hx, vs, H', hv, hs, hR⟩ := hq
  have hv' := hv.run hr ho
  have key : a.defers = [] ∧ ∃ v, (results fn a.tmps).run P w = .ok v w ∧ ∃ v' H', Ending.returned v = .returned v' ∧ Own W w H' ∧ R v' H' := by
    refine ⟨hr.defers, one vs, ?_, one vs, H', rfl, ho.sub hs, hR⟩
    have hres : results fn a.tmps = (do
        let vs ← fn.results.mapM (resOf a.tmps)
        Pure.pure (if h : vs.size = 1 then vs[0] else .tuple vs)) := by
      unfold results
      congr 1
    rw [hres, Array.mapM_eq_mapM_toList]
    simp only [Sem.run_bind, Sem.run_map, hv', Result.andThen_ok, Sem.run_pure]
    congr 1
    match vs with
    | [] => rfl
    | [v] => rfl
    | v :: u :: l => simp [one]
  rcases hx with rfl | rfl <;> exact key
section
variable {P : Program} {W : World} {n : Nat} {ops : Array Oper} {Q : Env → HL → Prop} {rest : List Oper} {e : Env} {H : HL}
variable {d : Tmp} {ty : TypeId} {pos : String} {af : Array Edge}
theorem RS.callH {fo : Operand} {xs : Array Operand} {ats : Array TypeId} {f : FuncId} {first cap : Array Value} {argl : List Value} {R : Value → HL → Prop} (H1 : HL) (hd : Nat.blt d n = true) (hf : ev e fo = .func (.func f) first cap) (hok : callOK P f = true)
    (ha : first.toList ++ xs.toList.map (ev e) ++ cap.toList = argl) (hs : Sbp H1 H) (hc : ∀ w, Own W w H1 → FnH P f argl.toArray W H1 R) (k : ∀ v Hn, R v Hn → RS P W n ops Q rest (put e d v) Hn) :
    RS P W n ops Q (⟨some d, .call ⟨.value fo, xs, ats⟩, ty, pos, af, none⟩ :: rest) e H := by
  intro a w hr ho
  have ho := ho.sbp hs
  simp only [wpList, Region.wanted, if_true]
  left
  unfold Oper.wp
  have hrun : (execOp a.eval ⟨some d, .call ⟨.value fo, xs, ats⟩, ty, pos, af, none⟩).run P w = .ok (.enter f argl.toArray) w := by
    rw [hr.eval]
    simp only [execOp, resolve, hf, Deferred.ofValue, Sem.run_bind, Sem.run_pure, Result.andThen_ok, invoke, args_eq ha, run_callFunc hok]
  rw [hrun, Oper.upon_enter]
  refine Calls.mono (hc w ho w ho) fun x w' hx => ?_
  obtain ⟨v, Hn, rfl, h2, h3⟩ := hx
  exact k v Hn h3 _ _ (hr.put (d := some d) hd v) h2
end
end Go.Proofs.Ytapcgokcfmklbaa

namespace Go.Proofs.Ytapcgokcfmklbaa
open Go Go.RowKit

def mixL (N : Nat) (P : Nat → Bool) (f : Nat → Nat) (ys : List Nat) : List Nat := (List.range N).map fun i => if P i then f i else ys.getD i 0
theorem mixL_len (N : Nat) (P : Nat → Bool) (f : Nat → Nat) (ys : List Nat) : (mixL N P f ys).length = N := by simp [mixL]
theorem mixL_congr {N : Nat} {P P' : Nat → Bool} {f : Nat → Nat} {ys : List Nat} (h : ∀ i, i < N → P i = P' i) : mixL N P f ys = mixL N P' f ys := by
  unfold mixL
  apply List.map_congr_left
  intro i hi
  simp only [h i (List.mem_range.1 hi)]
theorem mixL_none {N : Nat} {P : Nat → Bool} {f : Nat → Nat} {ys : List Nat} (hl : ys.length = N) (h : ∀ i, i < N → P i = false) : mixL N P f ys = ys := by
  unfold mixL
  apply List.ext_getElem
  · simp [hl]
  · intro i h1 h2
    simp only [List.getElem_map, List.getElem_range]
    rw [h i (by omega)]
    simp [List.getD, h2]
theorem mixL_set {N n x : Nat} {P : Nat → Bool} {f : Nat → Nat} {ys : List Nat} (hx : x = f n) : ((mixL N P f ys).map flt).set n (flt x) = (mixL N (fun i => P i || i == n) f ys).map flt := by
  subst hx
  apply List.ext_getElem
  · simp [mixL]
  · intro i h1 h2
    have hi : i < N := by simpa [mixL] using h2
    rw [List.getElem_set]
    split
    · rename_i he; subst he; simp [mixL]
    · rename_i he
      have h3 : ¬ i = n := fun h => he h.symm
      simp [mixL, h3]
/-- the i-th number stands in a rectangle of pixels (columns p .. p + w, rows q .. q + j), or is one of the first k of its row q + j -/
def inP (a p w q j k : Nat) (i : Nat) : Bool := decide ((q ≤ i / 4 / a ∧ i / 4 / a < q + j ∧ p ≤ i / 4 % a ∧ i / 4 % a < p + w) ∨ (i / 4 / a = q + j ∧ p ≤ i / 4 % a ∧ 4 * (i / 4 % a) + i % 4 < 4 * p + k))
theorem inP_zero (a p w q : Nat) (i : Nat) : inP a p w q 0 0 i = false := by
  unfold inP
  rw [decide_eq_false]
  omega
theorem inP_row {a p w q j : Nat} (i : Nat) : inP a p w q j (4 * w) i = inP a p w q (j + 1) 0 i := by
  unfold inP
  congr 1
  apply propext
  have := Nat.mod_lt i (show 0 < 4 by omega)
  omega
theorem pos_of {a i : Nat} (ha : 0 < a) : i = 4 * (a * (i / 4 / a) + i / 4 % a) + i % 4 ∧ i / 4 % a < a ∧ i % 4 < 4 := ⟨by
  have h1 := Nat.div_add_mod (i / 4) a
  have h2 := Nat.div_add_mod i 4
  rw [h1]; omega, Nat.mod_lt _ ha, Nat.mod_lt _ (by omega)⟩
theorem place_of {a c r x : Nat} (hc : c < a) (hx : x < 4) : (4 * (a * r + c) + x) / 4 / a = r ∧ (4 * (a * r + c) + x) / 4 % a = c ∧ (4 * (a * r + c) + x) % 4 = x := by
  have h1 : (4 * (a * r + c) + x) / 4 = a * r + c := by omega
  rw [h1, Nat.mul_add_mod, Nat.mod_eq_of_lt hc, Nat.mul_add_div (by omega), Nat.div_eq_of_lt hc]
  omega
theorem inP_step {a p w q j k : Nat} (hp : p + w ≤ a) (hk : k < 4 * w) (i : Nat) : (inP a p w q j k i || i == 4 * (a * (q + j) + (p + k / 4)) + k % 4) = inP a p w q j (k + 1) i := by
  have ha : 0 < a := by omega
  have hk4 : p + k / 4 < a := by omega
  have hkm : k % 4 < 4 := by omega
  have hn := place_of (a := a) (c := p + k / 4) (r := q + j) (x := k % 4) hk4 hkm
  have hi := pos_of (i := i) ha
  have key : (i == 4 * (a * (q + j) + (p + k / 4)) + k % 4) = decide (i / 4 / a = q + j ∧ i / 4 % a = p + k / 4 ∧ i % 4 = k % 4) := by
    rw [Bool.eq_iff_iff, beq_iff_eq, decide_eq_true_eq]
    refine ⟨fun h => ?_, fun h => ?_⟩
    · subst h; exact hn
    · rw [hi.1, h.1, h.2.1, h.2.2]
  rw [key]
  unfold inP
  rw [Bool.eq_iff_iff, Bool.or_eq_true, decide_eq_true_eq, decide_eq_true_eq, decide_eq_true_eq]
  omega
/-- is a pixel in a region -/
def atB (x y X Y W H : Int) : Bool := decide (X ≤ x ∧ Y ≤ y ∧ x ≤ X + W - 1 ∧ y ≤ Y + H - 1)
/-- what is common, by columns and rows of the first frame -/
theorem inP_all {X Y X2 Y2 : Int} {a b a2 b2 p q w h i : Nat} (hi : i < 4 * (a * b)) (hp : max X X2 = X + p) (hq : max Y Y2 = Y + q) (hw : min (X + a) (X2 + a2) = X + p + w) (hh : min (Y + b) (Y2 + b2) = Y + q + h) :
    inP a p w q h 0 i = atB (X + ((i / 4 % a : Nat) : Int)) (Y + ((i / 4 / a : Nat) : Int)) X2 Y2 a2 b2 := by
  have ha : 0 < a := by
    rcases Nat.eq_zero_or_pos a with h0 | h0
    · subst h0; simp at hi
    · exact h0
  have h1 : i / 4 / a < b := by rw [Nat.div_lt_iff_lt_mul ha, Nat.mul_comm]; omega
  have h2 : i / 4 % a < a := Nat.mod_lt _ ha
  unfold inP atB
  congr 1
  apply propext
  generalize i / 4 / a = r at *
  generalize i / 4 % a = c at *
  omega
/-- the frame with another one laid over it -/
def overV (ys zs : List Nat) (X Y : Int) (a b : Nat) (X2 Y2 : Int) (a2 b2 : Nat) : List Nat :=
  mixL (4 * (a * b)) (fun i => atB (X + ((i / 4 % a : Nat) : Int)) (Y + ((i / 4 / a : Nat) : Int)) X2 Y2 a2 b2) (madeF (pixF zs X2 Y2 a2 b2) X Y a) ys
theorem overV_apart {ys zs : List Nat} {X Y X2 Y2 : Int} {a b a2 b2 : Nat} (hl : ys.length = 4 * (a * b)) (h : min (X + a) (X2 + a2) - max X X2 < 1 ∨ min (Y + b) (Y2 + b2) - max Y Y2 < 1) : overV ys zs X Y a b X2 Y2 a2 b2 = ys := by
  refine mixL_none hl fun i hi => ?_
  have ha : 0 < a := by
    rcases Nat.eq_zero_or_pos a with h0 | h0
    · subst h0; simp at hi
    · exact h0
  have h1 : i / 4 / a < b := by rw [Nat.div_lt_iff_lt_mul ha, Nat.mul_comm]; omega
  have h2 : i / 4 % a < a := Nat.mod_lt _ ha
  unfold atB
  apply decide_eq_false
  generalize i / 4 / a = r at *
  generalize i / 4 % a = c at *
  omega
/-- a pixel pasted -/
def pasteF (xs zs : List Nat) (X Y : Int) (a b : Nat) (X2 Y2 : Int) (a2 b2 : Nat) (x y : Int) (c : Nat) : Nat := if atB x y X2 Y2 a2 b2 then pixF zs X2 Y2 a2 b2 x y c else pixF xs X Y a b x y c
theorem overV_cut {ys zs : List Nat} {X Y X2 Y2 : Int} {a b a2 b2 : Nat} (h1 : X2 ≤ X) (h2 : Y2 ≤ Y) (h3 : X + a ≤ X2 + a2) (h4 : Y + b ≤ Y2 + b2) : overV ys zs X Y a b X2 Y2 a2 b2 = madeV (pixF zs X2 Y2 a2 b2) X Y a (4 * (a * b)) := by
  unfold overV mixL madeV
  apply List.map_congr_left
  intro i hi
  have hi := List.mem_range.1 hi
  have ha : 0 < a := by
    rcases Nat.eq_zero_or_pos a with h0 | h0
    · subst h0; simp at hi
    · exact h0
  have h5 : i / 4 / a < b := by rw [Nat.div_lt_iff_lt_mul ha, Nat.mul_comm]; omega
  have h6 : i / 4 % a < a := Nat.mod_lt _ ha
  refine if_pos ?_
  show atB _ _ _ _ _ _ = true
  unfold atB
  apply decide_eq_true
  generalize i / 4 / a = r at *
  generalize i / 4 % a = c at *
  omega
theorem over_at {zs : List Nat} {X Y X2 Y2 : Int} {a a2 b2 p q p2 q2 w j k o1 o2 : Nat} (h1 : o1 = 4 * (a * (q + j) + p)) (h2 : o2 = 4 * (a2 * (q2 + j) + p2)) (hx : X + p = X2 + p2) (hy : Y + q = Y2 + q2) (hk : k < 4 * w) (hp : p + w ≤ a) (hp2 : p2 + w ≤ a2) (hj : q2 + j < b2) :
    cl (zs.getD (o2 + k) 0) = madeF (pixF zs X2 Y2 a2 b2) X Y a (o1 + k) := by
  have e1 : o1 + k = 4 * (a * (q + j) + (p + k / 4)) + k % 4 := by omega
  have e2 : o2 + k = 4 * ((q2 + j) * a2 + (p2 + k / 4)) + k % 4 := by rw [h2, Nat.mul_comm a2]; omega
  rw [e1, madeF_at (by omega) (by omega), e2]
  have e3 : X + ((p + k / 4 : Nat) : Int) = X2 + ((p2 + k / 4 : Nat) : Int) := by omega
  have e4 : Y + ((q + j : Nat) : Int) = Y2 + ((q2 + j : Nat) : Int) := by omega
  rw [e3, e4, pixF_at (near_in (by omega) (by omega)) (near_in (by omega) (by omega))]
theorem over_done {ys zs : List Nat} {X Y X2 Y2 : Int} {a b a2 b2 p q w h : Nat} (hp : max X X2 = X + p) (hq : max Y Y2 = Y + q) (hw : min (X + a) (X2 + a2) = X + p + w) (hh : min (Y + b) (Y2 + b2) = Y + q + h) :
    mixL (4 * (a * b)) (inP a p w q h 0) (madeF (pixF zs X2 Y2 a2 b2) X Y a) ys = overV ys zs X Y a b X2 Y2 a2 b2 := mixL_congr fun _ hi => inP_all hi hp hq hw hh
theorem over_row (N a p w q j : Nat) (f : Nat → Nat) (ys : List Nat) : mixL N (inP a p w q (j + 1) 0) f ys = mixL N (inP a p w q j (4 * w)) f ys := mixL_congr fun i _ => (inP_row i).symm
theorem over_set {N a p w q j k o x : Nat} {f : Nat → Nat} {ys : List Nat} (ho : o = 4 * (a * (q + j) + p)) (hp : p + w ≤ a) (hk : k < 4 * w) (hx : x = f (o + k)) :
    ((mixL N (inP a p w q j k) f ys).map flt).set (o + k) (flt x) = (mixL N (inP a p w q j (k + 1)) f ys).map flt := by
  rw [mixL_set hx]
  congr 1
  refine mixL_congr fun i _ => ?_
  rw [← inP_step hp hk i, show o + k = 4 * (a * (q + j) + (p + k / 4)) + k % 4 by omega]
theorem over_zero {N a p w q : Nat} {f : Nat → Nat} {ys : List Nat} (hl : ys.length = N) : mixL N (inP a p w q 0 0) f ys = ys := mixL_none hl fun i _ => inP_zero a p w q i
/-- where two frames meet -/
structure Meets (X Y : Int) (a b : Nat) (X2 Y2 : Int) (a2 b2 : Nat) (p q p2 q2 w h : Nat) : Prop where
  x : X + p = X2 + p2
  y : Y + q = Y2 + q2
  w1 : 1 ≤ w
  h1 : 1 ≤ h
  pa : p + w ≤ a
  pa2 : p2 + w ≤ a2
  qb : q + h ≤ b
  qb2 : q2 + h ≤ b2
  mx : max X X2 = X + p
  my : max Y Y2 = Y + q
  mw : min (X + a) (X2 + a2) = X + p + w
  mh : min (Y + b) (Y2 + b2) = Y + q + h
theorem meets {X Y X2 Y2 : Int} {a b a2 b2 : Nat} (h : cmB X Y a b X2 Y2 a2 b2 = true) : ∃ p q p2 q2 w h : Nat, cmT X Y a b X2 Y2 a2 b2 = (X + p, Y + q, (w : Int), (h : Int)) ∧ Meets X Y a b X2 Y2 a2 b2 p q p2 q2 w h := by
  have h0 := h
  unfold cmB at h0
  simp only [Bool.and_eq_true, decide_eq_true_eq] at h0
  unfold cmT
  rw [if_pos h]
  unfold cmw at h0 ⊢
  refine ⟨(max X X2 - X).toNat, (max Y Y2 - Y).toNat, (max X X2 - X2).toNat, (max Y Y2 - Y2).toNat, (min (X + a) (X2 + a2) - max X X2).toNat, (min (Y + b) (Y2 + b2) - max Y Y2).toNat, ?_, ?_⟩
  · simp only [Prod.mk.injEq]; omega
  · constructor <;> omega
theorem apart {X Y X2 Y2 : Int} {a b a2 b2 : Nat} (h : cmB X Y a b X2 Y2 a2 b2 = false) : min (X + a) (X2 + a2) - max X X2 < 1 ∨ min (Y + b) (Y2 + b2) - max Y Y2 < 1 := by
  unfold cmB at h
  rw [Bool.and_eq_false_iff, decide_eq_false_iff_not, decide_eq_false_iff_not] at h
  unfold cmw at h
  omega
end Go.Proofs.Ytapcgokcfmklbaa

namespace Go.Proofs.Ytapcgokcfmklbaa
open Go Go.Proofs Go.RowKit

theorem ok95 : callOK Try.prog 95 = true := by kernel_rfl
theorem ok138 : callOK Try.prog 138 = true := by kernel_rfl
theorem ok96 : callOK Try.prog 96 = true := by kernel_rfl
set_option maxRecDepth 100000 in
theorem offset_ (X Y x y he : Int) (a i j o : Nat) (W : World) (hx : x = X + i) (hy : y = Y + j) (ho_ : o = 4 * (a * j + i)) (hX : -1048576 ≤ X ∧ X ≤ 1048576) (hY : -1048576 ≤ Y ∧ Y ≤ 1048576) (hi : i ≤ 1048576) (hj : j ≤ 1048576) (hob : o ≤ 1000000000) : Fn_ Try.prog 138 #[.agg #[iv X, iv Y, iv (a : Int), iv he], iv x, iv y] W (fun v H => v = iv (o : Int) ∧ H = []) := by
  have hmul : (j : Int) * (a : Int) = ((a * j : Nat) : Int) := by rw [Int.natCast_mul, Int.mul_comm]
  refine Fn_.intro Try.func138 rfl rfl (by rfl) ?_
  refine CS.seq ?_
  refine CS.region ?_
  refine RS.box rfl (by rfl) (by rfl) ?_
  intro g3
  refine RS.q rfl (QO.assign) ?_
  refine RS.nil ?_
  refine thenC_n ?_
  refine CS.seq ?_
  refine CS.region ?_
  refine RS.q rfl (QO.move) ?_
  refine RS.q rfl (QO.fieldAddr fo23_1 (by rfl)) ?_
  first | (refine RS.q rfl (QO.load ty3 (by rfl) (by repeat (first | exact List.Mem.head _ | refine List.Mem.tail _ ?_)) (by rfl)) ?_) | (refine RS.q rfl (QO.loadO ty3 (by rfl) (by assumption)) ?_) | (refine RS.q rfl (QO.load ty3 (by rfl) (by repeat (first | exact List.Mem.head _ | refine List.Mem.tail _ ?_)) (by assumption)) ?_)
  first | (refine RS.qv rfl (QO.sub (by rfl) (by rfl) (by omega) (by omega)) (congrArg iv (show y - Y = (j : Int) by omega)) ?_) | (refine RS.qv rfl (QO.ibin (by rfl) (by rfl) trivial) (congrArg iv (show y - Y = (j : Int) by omega)) ?_)
  refine RS.q rfl (QO.fieldAddr fo23_2 (by rfl)) ?_
  first | (refine RS.q rfl (QO.load ty3 (by rfl) (by repeat (first | exact List.Mem.head _ | refine List.Mem.tail _ ?_)) (by rfl)) ?_) | (refine RS.q rfl (QO.loadO ty3 (by rfl) (by assumption)) ?_) | (refine RS.q rfl (QO.load ty3 (by rfl) (by repeat (first | exact List.Mem.head _ | refine List.Mem.tail _ ?_)) (by assumption)) ?_)
  refine RS.qv rfl (QO.mul (by rfl) (by rfl) (by rw [hmul]; omega) (by rw [hmul]; omega)) (congrArg iv (show (j : Int) * (a : Int) = ((a * j : Nat) : Int) by rw [Int.natCast_mul, Int.mul_comm])) ?_
  refine RS.q rfl (QO.move) ?_
  first | (refine RS.q rfl (QO.add (by rfl) (by rfl) (by omega) (by omega)) ?_) | (refine RS.q rfl (QO.ibin (by rfl) (by rfl) trivial) ?_)
  refine RS.q rfl (QO.fieldAddr fo23_0 (by rfl)) ?_
  first | (refine RS.q rfl (QO.load ty3 (by rfl) (by repeat (first | exact List.Mem.head _ | refine List.Mem.tail _ ?_)) (by rfl)) ?_) | (refine RS.q rfl (QO.loadO ty3 (by rfl) (by assumption)) ?_) | (refine RS.q rfl (QO.load ty3 (by rfl) (by repeat (first | exact List.Mem.head _ | refine List.Mem.tail _ ?_)) (by assumption)) ?_)
  first | (refine RS.q rfl (QO.sub (by rfl) (by rfl) (by omega) (by omega)) ?_) | (refine RS.q rfl (QO.ibin (by rfl) (by rfl) trivial) ?_)
  first | (refine RS.qv rfl (QO.mul (by rfl) (by rfl) (by omega) (by omega)) (congrArg iv (show 4 * (((a * j : Nat) : Int) + x - X) = (o : Int) by rw [ho_]; omega)) ?_) | (refine RS.qv rfl (QO.ibin (by rfl) (by rfl) trivial) (congrArg iv (show 4 * (((a * j : Nat) : Int) + x - X) = (o : Int) by rw [ho_]; omega)) ?_)
  refine RS.q rfl (QO.assign) ?_
  refine RS.nil ?_
  refine thenC_n ?_
  refine CS.ret ?_
  refine retQ.mk (H' := []) (.inr rfl) (RVs.tmp (by rfl) RVs.nil) (List.nil_sublist _) ?_
  exact ⟨rfl, rfl⟩

def atE (x y X Y : Int) (a b : Nat) : Int := if atB x y X Y a b then 0 else 5
def atQ (xs : List Nat) (x y X Y : Int) (a b : Nat) (c : Nat) : Nat := if atB x y X Y a b then cl (pixF xs X Y a b x y c) else 0
/-- a pixel, cleaned as far as k -/
def ckL (q : Nat → Nat) (k : Nat) : List Value := [flt (if 0 < k then cl (q 0) else q 0), flt (if 1 < k then cl (q 1) else q 1), flt (if 2 < k then cl (q 2) else q 2), flt (if 3 < k then cl (q 3) else q 3)]
/-- a frame of one pixel: its numbers -/
def fillV (q : Nat → Nat) (N : Nat) : List Nat := (List.range N).map fun i => cl (q (i % 4))
def putF (xs : List Nat) (q : Nat → Nat) (o : Nat) (i : Nat) : Nat := if o ≤ i ∧ i < o + 4 then q (i - o) else xs.getD i 0
def putV (xs : List Nat) (q : Nat → Nat) (X Y : Int) (a b : Nat) (x y : Int) : List Nat := overV (xs.map cl) (fillV q 4) X Y a b x y 1 1
theorem commonW (ax ay aw ah bx bz bw bh rx ry rw_ rh : Int) (bb : Bool) (W : World) (hT : cmT ax ay aw ah bx bz bw bh = (rx, ry, rw_, rh)) (hB : cmB ax ay aw ah bx bz bw bh = bb) (q0 : -1000000000 ≤ ax ∧ ax ≤ 1000000000) (q1 : -1000000000 ≤ ay ∧ ay ≤ 1000000000) (q2 : -1000000000 ≤ aw ∧ aw ≤ 1000000000) (q3 : -1000000000 ≤ ah ∧ ah ≤ 1000000000) (q4 : -1000000000 ≤ bx ∧ bx ≤ 1000000000) (q5 : -1000000000 ≤ bz ∧ bz ≤ 1000000000) (q6 : -1000000000 ≤ bw ∧ bw ≤ 1000000000) (q7 : -1000000000 ≤ bh ∧ bh ≤ 1000000000) :
    Fn_ Try.prog 94 #[.agg #[iv ax, iv ay, iv aw, iv ah], .agg #[iv bx, iv bz, iv bw, iv bh]] W (fun v H => v = .tuple #[.agg #[iv rx, iv ry, iv rw_, iv rh], .bool bb] ∧ H = []) := by
  refine (common_ _ _ _ _ _ _ _ _ W q0 q1 q2 q3 q4 q5 q6 q7).mono fun v H h => ?_
  rw [hT, hB] at h
  exact h
theorem cmT_F {ax ay aw ah bx bz bw bh : Int} (h : cmB ax ay aw ah bx bz bw bh = false) : cmT ax ay aw ah bx bz bw bh = (0, 0, 0, 0) := if_neg (by rw [h]; decide)

set_option maxRecDepth 100000 in
theorem copyInto_F (X Y X2 Y2 : Int) (a b a2 b2 g n c n2 c2 : Nat) (A2 : Option Addr) (ys zs : List Nat) (K : HL) (W : World) (hl : ys.length = 4 * (a * b)) (hn : n = 4 * (a * b)) (hl2 : zs.length = n2) (hA2 : FS W A2 zs) (hn2 : n2 = 4 * (a2 * b2)) (hX : -1048576 ≤ X ∧ X ≤ 1048576) (hY : -1048576 ≤ Y ∧ Y ≤ 1048576) (ha : 1 ≤ a ∧ a ≤ 256) (hb : 1 ≤ b ∧ b ≤ 256) (hX2 : -1048576 ≤ X2 ∧ X2 ≤ 1048576) (hY2 : -1048576 ≤ Y2 ∧ Y2 ≤ 1048576) (ha2 : 1 ≤ a2 ∧ a2 ≤ 256) (hb2 : 1 ≤ b2 ∧ b2 ≤ 256) (hB : cmB X Y a b X2 Y2 a2 b2 = false) : FnH Try.prog 96 #[.agg #[iv X, iv Y, iv (a : Int), iv (b : Int), .slice (some ⟨g, 0, none⟩) n c], .agg #[iv X2, iv Y2, iv (a2 : Int), iv (b2 : Int), .slice A2 n2 c2]] W (⟨g, 29, ys.map flt⟩ :: K) (fun v H => v = .tuple #[] ∧ H = ⟨g, 29, (overV ys zs X Y a b X2 Y2 a2 b2).map flt⟩ :: K) := by
  refine FnH.intro Try.func96 rfl rfl (by rfl) ?_
  refine CS.seq ?_
  refine CS.region ?_
  refine RS.box rfl (by rfl) (by rfl) ?_
  intro g2
  refine RS.box rfl (by rfl) (by rfl) ?_
  intro g3
  refine RS.nil ?_
  refine thenC_n ?_
  refine CS.seq ?_
  refine CS.region ?_
  refine RS.q rfl (QO.fieldAddr fo26_0 (by rfl)) ?_
  first | (refine RS.q rfl (QO.loadB ty23 (by rfl) (by repeat (first | exact List.Mem.head _ | refine List.Mem.tail _ ?_)) (by rfl)) ?_) | (refine RS.q rfl (QO.loadA ty23 (by rfl) (by repeat (first | exact List.Mem.head _ | refine List.Mem.tail _ ?_)) (by rfl) (by rfl)) ?_) | (refine RS.q rfl (QO.loadOA ty23 (by rfl) (by assumption) (by rfl)) ?_)
  refine RS.q rfl (QO.fieldAddr fo26_0 (by rfl)) ?_
  first | (refine RS.q rfl (QO.loadB ty23 (by rfl) (by repeat (first | exact List.Mem.head _ | refine List.Mem.tail _ ?_)) (by rfl)) ?_) | (refine RS.q rfl (QO.loadA ty23 (by rfl) (by repeat (first | exact List.Mem.head _ | refine List.Mem.tail _ ?_)) (by rfl) (by rfl)) ?_) | (refine RS.q rfl (QO.loadOA ty23 (by rfl) (by assumption) (by rfl)) ?_)
  refine RS.call rfl (by rfl) ok94 (by rfl) (fun w ho => commonW X Y a b X2 Y2 a2 b2 0 0 0 0 false _ (cmT_F hB) hB (by omega) (by omega) (by omega) (by omega) (by omega) (by omega) (by omega) (by omega)) ?_
  rintro _ _ ⟨rfl, rfl⟩
  refine RS.q rfl (QO.move) ?_
  refine RS.q rfl (QO.extract (by rfl) (by rfl)) ?_
  refine RS.q rfl (QO.extract (by rfl) (by rfl)) ?_
  refine RS.alloc rfl ty23 ?_
  intro g4
  first | refine RS.storeB ty23 (by rfl) (by rfl) (by rfl) (by rfl) (by rfl) (by repeat (first | exact Upd.head | apply Upd.tail)) (by rfl) ?_ | refine RS.storeP ty23 (by rfl) (by rfl) (by rfl) (by rfl) (by rfl) (by repeat (first | exact Upd.head | apply Upd.tail)) (by rfl) ?_
  refine RS.q rfl (QO.assign) ?_
  refine RS.nil ?_
  refine thenC_n ?_
  refine CS.seq ?_
  refine CS.seq ?_
  refine CS.region ?_
  refine RS.q rfl (QO.move) ?_
  refine RS.q rfl (QO.not (by rfl)) ?_
  refine RS.nil ?_
  refine thenC_n ?_
  refine CS.condT (by rfl) rfl ?_
  refine CS.ret ?_
  refine thenC_r ?_
  refine retQ.mk (H' := ⟨g, 29, (overV ys zs X Y a b X2 Y2 a2 b2).map flt⟩ :: K) (.inr rfl) RVs.nil (by rw [overV_apart hl (apart hB)]; exact (by repeat (first | exact List.Sublist.refl _ | exact List.nil_sublist _ | refine List.Sublist.cons_cons _ ?_ | refine List.Sublist.cons _ ?_ | exact Sbp.refl | exact Sbp.nil | refine Sbp.cons (by repeat (first | exact Rem.head | apply Rem.tail)) ?_ | exact Sbp.app | refine Sbp.skip ?_))) ?_
  exact ⟨rfl, rfl⟩

theorem row_bd {a b r p w : Nat} (hp : p + w ≤ a) (hr : r < b) : a * r + p + w ≤ a * b := by
  have h1 : a * (r + 1) ≤ a * b := Nat.mul_le_mul_left a hr
  rw [Nat.mul_add] at h1
  omega

set_option maxRecDepth 100000 in
theorem copyInto_T (X Y X2 Y2 : Int) (a b a2 b2 g n c n2 c2 : Nat) (A2 : Option Addr) (ys zs : List Nat) (K : HL) (W : World) (hl : ys.length = 4 * (a * b)) (hn : n = 4 * (a * b)) (hl2 : zs.length = n2) (hA2 : FS W A2 zs) (hn2 : n2 = 4 * (a2 * b2)) (hX : -1048576 ≤ X ∧ X ≤ 1048576) (hY : -1048576 ≤ Y ∧ Y ≤ 1048576) (ha : 1 ≤ a ∧ a ≤ 256) (hb : 1 ≤ b ∧ b ≤ 256) (hX2 : -1048576 ≤ X2 ∧ X2 ≤ 1048576) (hY2 : -1048576 ≤ Y2 ∧ Y2 ≤ 1048576) (ha2 : 1 ≤ a2 ∧ a2 ≤ 256) (hb2 : 1 ≤ b2 ∧ b2 ≤ 256) (hB : cmB X Y a b X2 Y2 a2 b2 = true) (p q p2 q2 ww hh : Nat) (hT : cmT X Y a b X2 Y2 a2 b2 = (X + p, Y + q, (ww : Int), (hh : Int))) (mt : Meets X Y a b X2 Y2 a2 b2 p q p2 q2 ww hh) : FnH Try.prog 96 #[.agg #[iv X, iv Y, iv (a : Int), iv (b : Int), .slice (some ⟨g, 0, none⟩) n c], .agg #[iv X2, iv Y2, iv (a2 : Int), iv (b2 : Int), .slice A2 n2 c2]] W (⟨g, 29, ys.map flt⟩ :: K) (fun v H => v = .tuple #[] ∧ H = ⟨g, 29, (overV ys zs X Y a b X2 Y2 a2 b2).map flt⟩ :: K) := by
  subst hl2
  have hab1 := Nat.mul_le_mul ha2.1 hb2.1
  have hab2 := Nat.mul_le_mul ha.2 hb.2
  have hab3 := Nat.mul_le_mul ha2.2 hb2.2
  have mt1 := mt.x
  have mt2 := mt.y
  have mt3 := mt.w1
  have mt4 := mt.h1
  have mt5 := mt.pa
  have mt6 := mt.pa2
  have mt7 := mt.qb
  have mt8 := mt.qb2
  obtain ⟨bA, oA, rfl, hcell⟩ := hA2 (by omega)
  refine FnH.intro Try.func96 rfl rfl (by rfl) ?_
  refine CS.seq ?_
  refine CS.region ?_
  refine RS.box rfl (by rfl) (by rfl) ?_
  intro g2
  refine RS.box rfl (by rfl) (by rfl) ?_
  intro g3
  refine RS.nil ?_
  refine thenC_n ?_
  refine CS.seq ?_
  refine CS.region ?_
  refine RS.q rfl (QO.fieldAddr fo26_0 (by rfl)) ?_
  first | (refine RS.q rfl (QO.loadB ty23 (by rfl) (by repeat (first | exact List.Mem.head _ | refine List.Mem.tail _ ?_)) (by rfl)) ?_) | (refine RS.q rfl (QO.loadA ty23 (by rfl) (by repeat (first | exact List.Mem.head _ | refine List.Mem.tail _ ?_)) (by rfl) (by rfl)) ?_) | (refine RS.q rfl (QO.loadOA ty23 (by rfl) (by assumption) (by rfl)) ?_)
  refine RS.q rfl (QO.fieldAddr fo26_0 (by rfl)) ?_
  first | (refine RS.q rfl (QO.loadB ty23 (by rfl) (by repeat (first | exact List.Mem.head _ | refine List.Mem.tail _ ?_)) (by rfl)) ?_) | (refine RS.q rfl (QO.loadA ty23 (by rfl) (by repeat (first | exact List.Mem.head _ | refine List.Mem.tail _ ?_)) (by rfl) (by rfl)) ?_) | (refine RS.q rfl (QO.loadOA ty23 (by rfl) (by assumption) (by rfl)) ?_)
  refine RS.call rfl (by rfl) ok94 (by rfl) (fun w ho => commonW X Y a b X2 Y2 a2 b2 (X + p) (Y + q) ww hh true _ hT hB (by omega) (by omega) (by omega) (by omega) (by omega) (by omega) (by omega) (by omega)) ?_
  rintro _ _ ⟨rfl, rfl⟩
  refine RS.q rfl (QO.move) ?_
  refine RS.q rfl (QO.extract (by rfl) (by rfl)) ?_
  refine RS.q rfl (QO.extract (by rfl) (by rfl)) ?_
  refine RS.alloc rfl ty23 ?_
  intro g4
  first | refine RS.storeB ty23 (by rfl) (by rfl) (by rfl) (by rfl) (by rfl) (by repeat (first | exact Upd.head | apply Upd.tail)) (by rfl) ?_ | refine RS.storeP ty23 (by rfl) (by rfl) (by rfl) (by rfl) (by rfl) (by repeat (first | exact Upd.head | apply Upd.tail)) (by rfl) ?_
  refine RS.q rfl (QO.assign) ?_
  refine RS.nil ?_
  refine thenC_n ?_
  refine CS.seq ?_
  refine CS.seq ?_
  refine CS.region ?_
  refine RS.q rfl (QO.move) ?_
  refine RS.q rfl (QO.not (by rfl)) ?_
  refine RS.nil ?_
  refine thenC_n ?_
  refine CS.condF (by rfl) rfl ?_
  refine CS.skip ?_
  refine thenC_n ?_
  refine CS.seq ?_
  refine CS.region ?_
  refine RS.q rfl (QO.fieldAddr fo23_1 (by rfl)) ?_
  first | (refine RS.q rfl (QO.load ty3 (by rfl) (by repeat (first | exact List.Mem.head _ | refine List.Mem.tail _ ?_)) (by rfl)) ?_) | (refine RS.q rfl (QO.loadO ty3 (by rfl) (by assumption)) ?_) | (refine RS.q rfl (QO.load ty3 (by rfl) (by repeat (first | exact List.Mem.head _ | refine List.Mem.tail _ ?_)) (by assumption)) ?_)
  refine RS.q rfl (QO.assign) ?_
  refine RS.nil ?_
  refine thenC_n ?_
  refine CS.block ?_
  refine CS.loop (X := Nat) (6 :: 7 :: 8 :: 9 :: 22 :: 23 :: 24 :: 25 :: 26 :: 27 :: 28 :: 29 :: 30 :: 31 :: 32 :: 33 :: 34 :: 35 :: 36 :: 37 :: 38 :: 39 :: 40 :: 41 :: 42 :: 43 :: 44 :: 45 :: 46 :: 47 :: 48 :: 49 :: 50 :: 51 :: 52 :: 53 :: 54 :: 55 :: 56 :: 57 :: 58 :: 59 :: 60 :: 61 :: 62 :: 63 :: []) (fun j => [(6, iv (Y + (q : Int) + (j : Int)))]) (fun j => ⟨g4, 23, [iv (X + (p : Int)), iv (Y + (q : Int)), iv (ww : Int), iv (hh : Int)]⟩ :: ⟨g3, 26, [iv X2, iv Y2, iv (a2 : Int), iv (b2 : Int), .slice (some ⟨bA, oA, none⟩) zs.length c2]⟩ :: ⟨g2, 26, [iv X, iv Y, iv (a : Int), iv (b : Int), .slice (some ⟨g, 0, none⟩) n c]⟩ :: ⟨g, 29, (mixL (4 * (a * b)) (inP a p ww q j 0) (madeF (pixF zs X2 Y2 a2 b2) X Y a) ys).map flt⟩ :: K) (fun j => j ≤ hh) (fun j => hh - j) 0 (Nat.zero_le _) ?_ ?_ ?_
  · exact kn_cons (congrArg iv (by simp)) kn_nil
  · exact (by rw [over_zero hl]; exact (by repeat (first | exact List.Sublist.refl _ | exact List.nil_sublist _ | refine List.Sublist.cons_cons _ ?_ | refine List.Sublist.cons _ ?_ | exact Sbp.refl | exact Sbp.nil | refine Sbp.cons (by repeat (first | exact Rem.head | apply Rem.tail)) ?_ | exact Sbp.app | refine Sbp.skip ?_)))
  · intro j gj4 hz
    refine CS.seq ?_
    refine CS.seq ?_
    refine CS.region ?_
    refine RS.q rfl (QO.move) ?_
    refine RS.q rfl (QO.fieldAddr fo23_1 (by rfl)) ?_
    first | (refine RS.q rfl (QO.load ty3 (by rfl) (by repeat (first | exact List.Mem.head _ | refine List.Mem.tail _ ?_)) (by rfl)) ?_) | (refine RS.q rfl (QO.loadO ty3 (by rfl) (by assumption)) ?_) | (refine RS.q rfl (QO.load ty3 (by rfl) (by repeat (first | exact List.Mem.head _ | refine List.Mem.tail _ ?_)) (by assumption)) ?_)
    refine RS.q rfl (QO.fieldAddr fo23_3 (by rfl)) ?_
    first | (refine RS.q rfl (QO.load ty3 (by rfl) (by repeat (first | exact List.Mem.head _ | refine List.Mem.tail _ ?_)) (by rfl)) ?_) | (refine RS.q rfl (QO.loadO ty3 (by rfl) (by assumption)) ?_) | (refine RS.q rfl (QO.load ty3 (by rfl) (by repeat (first | exact List.Mem.head _ | refine List.Mem.tail _ ?_)) (by assumption)) ?_)
    first | (refine RS.q rfl (QO.add (by rfl) (by rfl) (by omega) (by omega)) ?_) | (refine RS.q rfl (QO.ibin (by rfl) (by rfl) trivial) ?_)
    refine RS.q rfl (QO.lss (by rfl) (by rfl)) ?_
    refine RS.nil ?_
    refine thenC_n ?_
    refine CS.cond (by rfl) (fun hb0 => ?_) (fun hb0 => ?_)
    · have hb0p := of_decide_eq_true hb0
      refine CS.skip ?_
      refine thenC_n ?_
      refine CS.seq ?_
      refine CS.block ?_
      refine CS.seq ?_
      refine CS.draw 14 rfl (by kernel_rfl) (by kernel_rfl) ?_
      have hjh : j < hh := by omega
      obtain ⟨o1, ho1⟩ : ∃ o, o = 4 * (a * (q + j) + p) := ⟨_, rfl⟩
      obtain ⟨o2, ho2⟩ : ∃ o, o = 4 * (a2 * (q2 + j) + p2) := ⟨_, rfl⟩
      have hv1 := row_bd (a := a) (b := b) (r := q + j) (p := p) (w := ww) mt5 (by omega)
      have hv2 := row_bd (a := a2) (b := b2) (r := q2 + j) (p := p2) (w := ww) mt6 (by omega)
      refine RT.take (i := 0) rfl (by kernel_rfl) rfl (QO.fieldAddr fo26_0 (by rfl)) ?_
      first | (refine RT.take (i := 1) rfl (by kernel_rfl) rfl (QO.loadB ty23 (by rfl) (by repeat (first | exact List.Mem.head _ | refine List.Mem.tail _ ?_)) (by rfl)) ?_) | (refine RT.take (i := 1) rfl (by kernel_rfl) rfl (QO.loadA ty23 (by rfl) (by repeat (first | exact List.Mem.head _ | refine List.Mem.tail _ ?_)) (by rfl) (by rfl)) ?_) | (refine RT.take (i := 1) rfl (by kernel_rfl) rfl (QO.loadOA ty23 (by rfl) (by assumption) (by rfl)) ?_)
      refine RT.take (i := 2) rfl (by kernel_rfl) rfl (QO.fieldAddr fo23_0 (by rfl)) ?_
      first | (refine RT.take (i := 3) rfl (by kernel_rfl) rfl (QO.load ty3 (by rfl) (by repeat (first | exact List.Mem.head _ | refine List.Mem.tail _ ?_)) (by rfl)) ?_) | (refine RT.take (i := 3) rfl (by kernel_rfl) rfl (QO.loadO ty3 (by rfl) (by assumption)) ?_) | (refine RT.take (i := 3) rfl (by kernel_rfl) rfl (QO.load ty3 (by rfl) (by repeat (first | exact List.Mem.head _ | refine List.Mem.tail _ ?_)) (by assumption)) ?_)
      refine RT.take (i := 4) rfl (by kernel_rfl) rfl (QO.move) ?_
      refine RT.take (i := 6) rfl (by kernel_rfl) rfl (QO.fieldAddr fo26_0 (by rfl)) ?_
      first | (refine RT.take (i := 7) rfl (by kernel_rfl) rfl (QO.loadB ty23 (by rfl) (by repeat (first | exact List.Mem.head _ | refine List.Mem.tail _ ?_)) (by rfl)) ?_) | (refine RT.take (i := 7) rfl (by kernel_rfl) rfl (QO.loadA ty23 (by rfl) (by repeat (first | exact List.Mem.head _ | refine List.Mem.tail _ ?_)) (by rfl) (by rfl)) ?_) | (refine RT.take (i := 7) rfl (by kernel_rfl) rfl (QO.loadOA ty23 (by rfl) (by assumption) (by rfl)) ?_)
      refine RT.take (i := 8) rfl (by kernel_rfl) rfl (QO.fieldAddr fo23_0 (by rfl)) ?_
      first | (refine RT.take (i := 9) rfl (by kernel_rfl) rfl (QO.load ty3 (by rfl) (by repeat (first | exact List.Mem.head _ | refine List.Mem.tail _ ?_)) (by rfl)) ?_) | (refine RT.take (i := 9) rfl (by kernel_rfl) rfl (QO.loadO ty3 (by rfl) (by assumption)) ?_) | (refine RT.take (i := 9) rfl (by kernel_rfl) rfl (QO.load ty3 (by rfl) (by repeat (first | exact List.Mem.head _ | refine List.Mem.tail _ ?_)) (by assumption)) ?_)
      refine RT.take (i := 10) rfl (by kernel_rfl) rfl (QO.move) ?_
      refine RT.one (i := 5) (by kernel_rfl) rfl rfl ?_
      refine RS.call rfl (by rfl) ok138 (by rfl) (fun w ho => offset_ X Y (X + p) (Y + q + j) b a p (q + j) o1 _ rfl (by omega) ho1 hX hY (by omega) (by omega) (by omega)) ?_
      rintro _ _ ⟨rfl, rfl⟩
      refine RS.nil ⟨(by repeat (first | exact List.Sublist.refl _ | exact List.nil_sublist _ | refine List.Sublist.cons_cons _ ?_ | refine List.Sublist.cons _ ?_ | exact Sbp.refl | exact Sbp.nil | refine Sbp.cons (by repeat (first | exact Rem.head | apply Rem.tail)) ?_ | exact Sbp.app | refine Sbp.skip ?_)), ?_⟩
      refine RT.one (i := 11) (by kernel_rfl) rfl rfl ?_
      refine RS.call rfl (by rfl) ok138 (by rfl) (fun w ho => offset_ X2 Y2 (X + p) (Y + q + j) b2 a2 p2 (q2 + j) o2 _ mt.x (by omega) ho2 hX2 hY2 (by omega) (by omega) (by omega)) ?_
      rintro _ _ ⟨rfl, rfl⟩
      refine RS.nil ⟨(by repeat (first | exact List.Sublist.refl _ | exact List.nil_sublist _ | refine List.Sublist.cons_cons _ ?_ | refine List.Sublist.cons _ ?_ | exact Sbp.refl | exact Sbp.nil | refine Sbp.cons (by repeat (first | exact Rem.head | apply Rem.tail)) ?_ | exact Sbp.app | refine Sbp.skip ?_)), ?_⟩
      refine RT.take (i := 12) rfl (by kernel_rfl) rfl (QO.assign) ?_
      refine RT.take (i := 13) rfl (by kernel_rfl) rfl (QO.assign) ?_
      refine RT.done (by kernel_rfl) ?_
      refine thenC_n ?_
      refine CS.seq ?_
      refine CS.region ?_
      refine RS.q rfl (QO.fieldAddr fo23_2 (by rfl)) ?_
      first | (refine RS.q rfl (QO.load ty3 (by rfl) (by repeat (first | exact List.Mem.head _ | refine List.Mem.tail _ ?_)) (by rfl)) ?_) | (refine RS.q rfl (QO.loadO ty3 (by rfl) (by assumption)) ?_) | (refine RS.q rfl (QO.load ty3 (by rfl) (by repeat (first | exact List.Mem.head _ | refine List.Mem.tail _ ?_)) (by assumption)) ?_)
      first | (refine RS.q rfl (QO.mul (by rfl) (by rfl) (by omega) (by omega)) ?_) | (refine RS.q rfl (QO.ibin (by rfl) (by rfl) trivial) ?_)
      refine RS.q rfl (QO.move) ?_
      refine RS.nil ?_
      refine thenC_n ?_
      refine CS.block ?_
      refine CS.loop (X := Nat) (9 :: 46 :: 47 :: 48 :: 49 :: 50 :: 51 :: 52 :: 53 :: 54 :: 55 :: 56 :: 57 :: 58 :: 59 :: 60 :: 61 :: 62 :: 63 :: []) (fun k => [(46, iv (k : Int))]) (fun k => ⟨g4, 23, [iv (X + (p : Int)), iv (Y + (q : Int)), iv (ww : Int), iv (hh : Int)]⟩ :: ⟨g3, 26, [iv X2, iv Y2, iv (a2 : Int), iv (b2 : Int), .slice (some ⟨bA, oA, none⟩) zs.length c2]⟩ :: ⟨g2, 26, [iv X, iv Y, iv (a : Int), iv (b : Int), .slice (some ⟨g, 0, none⟩) n c]⟩ :: ⟨g, 29, (mixL (4 * (a * b)) (inP a p ww q j k) (madeF (pixF zs X2 Y2 a2 b2) X Y a) ys).map flt⟩ :: K) (fun k => k ≤ 4 * ww) (fun k => 4 * ww - k) 0 (Nat.zero_le _) ?_ ?_ ?_
      · exact (by repeat (first | exact kn_nil | refine kn_cons (by rfl) ?_))
      · exact (by repeat (first | exact List.Sublist.refl _ | exact List.nil_sublist _ | refine List.Sublist.cons_cons _ ?_ | refine List.Sublist.cons _ ?_ | exact Sbp.refl | exact Sbp.nil | refine Sbp.cons (by repeat (first | exact Rem.head | apply Rem.tail)) ?_ | exact Sbp.app | refine Sbp.skip ?_))
      · intro k gj8 hz
        refine CS.seq ?_
        refine CS.region ?_
        refine RS.q rfl (QO.lss (by rfl) (by rfl)) ?_
        refine RS.nil ?_
        refine thenC_n ?_
        refine CS.seq ?_
        refine CS.cond (by rfl) (fun hb1 => ?_) (fun hb1 => ?_)
        · have hb1p := of_decide_eq_true hb1
          refine CS.skip ?_
          refine thenC_n ?_
          refine CS.seq ?_
          refine CS.block ?_
          refine CS.seq ?_
          refine CS.region ?_
          refine RS.q rfl (QO.move) ?_
          refine RS.q rfl (QO.assign) ?_
          refine RS.nil ?_
          refine thenC_n ?_
          refine CS.draw 14 rfl (by kernel_rfl) (by kernel_rfl) ?_
          refine RT.take (i := 0) rfl (by kernel_rfl) rfl (QO.fieldAddr fo26_1 (by rfl)) ?_
          first | (refine RT.take (i := 1) rfl (by kernel_rfl) rfl (QO.load ty24 (by rfl) (by repeat (first | exact List.Mem.head _ | refine List.Mem.tail _ ?_)) (by rfl)) ?_) | (refine RT.take (i := 1) rfl (by kernel_rfl) rfl (QO.loadO ty24 (by rfl) (by assumption)) ?_) | (refine RT.take (i := 1) rfl (by kernel_rfl) rfl (QO.load ty24 (by rfl) (by repeat (first | exact List.Mem.head _ | refine List.Mem.tail _ ?_)) (by assumption)) ?_)
          refine RT.take (i := 2) rfl (by kernel_rfl) rfl (QO.move) ?_
          refine RT.take (i := 3) rfl (by kernel_rfl) rfl (QO.move) ?_
          first | (refine RT.takev (i := 4) rfl (by kernel_rfl) rfl (QO.add (by rfl) (by rfl) (by omega) (by omega)) (congrArg iv (show (o1 : Int) + (k : Int) = ((o1 + k : Nat) : Int) by omega)) ?_) | (refine RT.takev (i := 4) rfl (by kernel_rfl) rfl (QO.ibin (by rfl) (by rfl) trivial) (congrArg iv (show (o1 : Int) + (k : Int) = ((o1 + k : Nat) : Int) by omega)) ?_)
          refine RT.take (i := 5) rfl (by kernel_rfl) rfl (QO.fieldAddr fo26_1 (by rfl)) ?_
          first | (refine RT.take (i := 6) rfl (by kernel_rfl) rfl (QO.load ty24 (by rfl) (by repeat (first | exact List.Mem.head _ | refine List.Mem.tail _ ?_)) (by rfl)) ?_) | (refine RT.take (i := 6) rfl (by kernel_rfl) rfl (QO.loadO ty24 (by rfl) (by assumption)) ?_) | (refine RT.take (i := 6) rfl (by kernel_rfl) rfl (QO.load ty24 (by rfl) (by repeat (first | exact List.Mem.head _ | refine List.Mem.tail _ ?_)) (by assumption)) ?_)
          refine RT.take (i := 7) rfl (by kernel_rfl) rfl (QO.move) ?_
          refine RT.take (i := 8) rfl (by kernel_rfl) rfl (QO.move) ?_
          first | (refine RT.takev (i := 9) rfl (by kernel_rfl) rfl (QO.add (by rfl) (by rfl) (by omega) (by omega)) (congrArg iv (show (o2 : Int) + (k : Int) = ((o2 + k : Nat) : Int) by omega)) ?_) | (refine RT.takev (i := 9) rfl (by kernel_rfl) rfl (QO.ibin (by rfl) (by rfl) trivial) (congrArg iv (show (o2 : Int) + (k : Int) = ((o2 + k : Nat) : Int) by omega)) ?_)
          first | (refine RT.take (i := 10) rfl (by kernel_rfl) rfl (QO.idx0 Try.underlying24 ty29 (by rfl) (by rfl) (by rfl) (by omega)) ?_) | (refine RT.take (i := 10) rfl (by kernel_rfl) rfl (QO.idxn Try.underlying24 ty29 (by rfl) (by rfl) (by rfl) (by omega)) ?_) | (refine RT.take (i := 10) rfl (by kernel_rfl) rfl (QO.idx1 Try.underlying24 ty29 (by rfl) (by rfl) (by omega) (by omega)) ?_)
          refine RT.take (i := 11) rfl (by kernel_rfl) rfl (QO.loadO ty29 (by rfl) (hcell _ _ (by rw [List.getElem?_eq_getElem (show o2 + k < zs.length by omega), getD_at]))) ?_
          refine RT.one (i := 12) (by kernel_rfl) rfl rfl ?_
          refine RS.call rfl (by rfl) ok57 (by rfl) (fun w ho => clean _ _) ?_
          rintro _ _ ⟨rfl, rfl⟩
          refine RS.nil ⟨(by repeat (first | exact List.Sublist.refl _ | exact List.nil_sublist _ | refine List.Sublist.cons_cons _ ?_ | refine List.Sublist.cons _ ?_ | exact Sbp.refl | exact Sbp.nil | refine Sbp.cons (by repeat (first | exact Rem.head | apply Rem.tail)) ?_ | exact Sbp.app | refine Sbp.skip ?_)), ?_⟩
          first | (refine RT.take (i := 13) rfl (by kernel_rfl) rfl (QO.idx0 Try.underlying24 ty29 (by rfl) (by rfl) (by rfl) (by omega)) ?_) | (refine RT.take (i := 13) rfl (by kernel_rfl) rfl (QO.idxn Try.underlying24 ty29 (by rfl) (by rfl) (by rfl) (by omega)) ?_) | (refine RT.take (i := 13) rfl (by kernel_rfl) rfl (QO.idx1 Try.underlying24 ty29 (by rfl) (by rfl) (by omega) (by omega)) ?_)
          refine RT.tail (i := 14) (by kernel_rfl) rfl rfl ?_
          refine RS.store1e ty29 rfl (by rfl) (by rfl) (by rfl) (over_set (N := 4 * (a * b)) (j := j) (k := k) (w := ww) (f := madeF (pixF zs X2 Y2 a2 b2) X Y a) (ys := ys) ho1 mt5 (by omega) (over_at (j := j) (k := k) (w := ww) (b2 := b2) ho1 ho2 mt.x mt.y (by omega) mt5 mt6 (by omega))) (by repeat (first | exact Upd.head | apply Upd.tail)) (by rw [List.length_map, mixL_len]; omega) ?_
          refine RS.nil ?_
          refine RT.done (by kernel_rfl) ?_
          refine blockC_n ?_
          refine thenC_n ?_
          refine CS.region ?_
          first | (refine RS.q rfl (QO.add (by rfl) (by rfl) (by omega) (by omega)) ?_) | (refine RS.q rfl (QO.ibin (by rfl) (by rfl) trivial) ?_)
          refine RS.q rfl (QO.move) ?_
          refine RS.nil ?_
          refine loopQ_n (by intro t ht; repeat (first | with_reducible exact rfl | exact frame_puts ht (frame_mix ht) _ rfl | (refine frame_put rfl ht ?_) | (refine frame_puts ht ?_ _ rfl) | exact frame_mix ht | (refine frame_mix2 rfl ht ?_) | exact rfl)) ?_
          exact ⟨k + 1, by omega, by omega, (by repeat (first | exact kn_nil | refine kn_cons (by rfl) ?_)), (by repeat (first | exact List.Sublist.refl _ | exact List.nil_sublist _ | refine List.Sublist.cons_cons _ ?_ | refine List.Sublist.cons _ ?_ | exact Sbp.refl | exact Sbp.nil | refine Sbp.cons (by repeat (first | exact Rem.head | apply Rem.tail)) ?_ | exact Sbp.app | refine Sbp.skip ?_))⟩
        · have hb1p := of_decide_eq_false hb1
          refine CS.exit ?_
          refine thenC_x ?_
          refine loopQ_x ?_
          refine blockC_x ?_
          refine blockC_n ?_
          refine thenC_n ?_
          refine CS.region ?_
          refine RS.q rfl (QO.move) ?_
          first | (refine RS.q rfl (QO.add (by rfl) (by rfl) (by omega) (by omega)) ?_) | (refine RS.q rfl (QO.ibin (by rfl) (by rfl) trivial) ?_)
          refine RS.q rfl (QO.assign) ?_
          refine RS.nil ?_
          refine loopQ_n (by intro t ht; repeat (first | with_reducible exact rfl | exact frame_puts ht (frame_mix ht) _ rfl | (refine frame_put rfl ht ?_) | (refine frame_puts ht ?_ _ rfl) | exact frame_mix ht | (refine frame_mix2 rfl ht ?_) | exact rfl)) ?_
          exact ⟨j + 1, by omega, by omega, kn_cons (congrArg iv (show Y + (q : Int) + (j : Int) + 1 = Y + (q : Int) + ((j + 1 : Nat) : Int) by omega)) kn_nil, (by obtain rfl : k = 4 * ww := (by omega); rw [over_row]; exact (by repeat (first | exact List.Sublist.refl _ | exact List.nil_sublist _ | refine List.Sublist.cons_cons _ ?_ | refine List.Sublist.cons _ ?_ | exact Sbp.refl | exact Sbp.nil | refine Sbp.cons (by repeat (first | exact Rem.head | apply Rem.tail)) ?_ | exact Sbp.app | refine Sbp.skip ?_)))⟩
    · have hb0p := of_decide_eq_false hb0
      refine CS.exit ?_
      refine thenC_x ?_
      refine loopQ_x ?_
      refine blockC_x ?_
      refine retQ.mk (H' := ⟨g, 29, (overV ys zs X Y a b X2 Y2 a2 b2).map flt⟩ :: K) (.inl rfl) RVs.nil (by obtain rfl : j = hh := (by omega); rw [← over_done mt.mx mt.my mt.mw mt.mh]; exact (by repeat (first | exact List.Sublist.refl _ | exact List.nil_sublist _ | refine List.Sublist.cons_cons _ ?_ | refine List.Sublist.cons _ ?_ | exact Sbp.refl | exact Sbp.nil | refine Sbp.cons (by repeat (first | exact Rem.head | apply Rem.tail)) ?_ | exact Sbp.app | refine Sbp.skip ?_))) ?_
      exact ⟨rfl, rfl⟩

theorem copyInto (X Y X2 Y2 : Int) (a b a2 b2 g n c n2 c2 : Nat) (A2 : Option Addr) (ys zs : List Nat) (K : HL) (W : World) (hl : ys.length = 4 * (a * b)) (hn : n = 4 * (a * b)) (hl2 : zs.length = n2) (hA2 : FS W A2 zs) (hn2 : n2 = 4 * (a2 * b2)) (hX : -1048576 ≤ X ∧ X ≤ 1048576) (hY : -1048576 ≤ Y ∧ Y ≤ 1048576) (ha : 1 ≤ a ∧ a ≤ 256) (hb : 1 ≤ b ∧ b ≤ 256) (hX2 : -1048576 ≤ X2 ∧ X2 ≤ 1048576) (hY2 : -1048576 ≤ Y2 ∧ Y2 ≤ 1048576) (ha2 : 1 ≤ a2 ∧ a2 ≤ 256) (hb2 : 1 ≤ b2 ∧ b2 ≤ 256) : FnH Try.prog 96 #[.agg #[iv X, iv Y, iv (a : Int), iv (b : Int), .slice (some ⟨g, 0, none⟩) n c], .agg #[iv X2, iv Y2, iv (a2 : Int), iv (b2 : Int), .slice A2 n2 c2]] W (⟨g, 29, ys.map flt⟩ :: K) (fun v H => v = .tuple #[] ∧ H = ⟨g, 29, (overV ys zs X Y a b X2 Y2 a2 b2).map flt⟩ :: K) := by
  rcases Bool.eq_false_or_eq_true (cmB X Y a b X2 Y2 a2 b2) with h | h
  · obtain ⟨p, q, p2, q2, w, h', hT, mt⟩ := meets h
    exact copyInto_T X Y X2 Y2 a b a2 b2 g n c n2 c2 A2 ys zs K W hl hn hl2 hA2 hn2 hX hY ha hb hX2 hY2 ha2 hb2 h p q p2 q2 w h' hT mt
  · exact copyInto_F X Y X2 Y2 a b a2 b2 g n c n2 c2 A2 ys zs K W hl hn hl2 hA2 hn2 hX hY ha hb hX2 hY2 ha2 hb2 h

def cutE (rx ry rw_ rh X Y a b : Int) : Int := if regErr rx ry rw_ rh ≠ 0 then regErr rx ry rw_ rh else if insB rx ry rw_ rh X Y a b then 0 else 5
def cutV (xs : List Nat) (X Y : Int) (a b : Nat) (rx ry rw_ rh : Int) : List Nat := madeV (pixF xs X Y a b) rx ry rw_.toNat (4 * (rw_.toNat * rh.toNat))
theorem insB_T {ax ay aw ah bx bz bw bh : Int} (h : insB ax ay aw ah bx bz bw bh = true) : bx ≤ ax ∧ bz ≤ ay ∧ ax ≤ bx + bw - aw ∧ ay ≤ bz + bh - ah := of_decide_eq_true h
theorem cut_1 {rx ry rw_ rh X Y a b : Int} (h : regErr rx ry rw_ rh ≠ 0) : cutE rx ry rw_ rh X Y a b = regErr rx ry rw_ rh := if_pos h
theorem cut_2 {rx ry rw_ rh X Y a b : Int} (h : regErr rx ry rw_ rh = 0) (h2 : insB rx ry rw_ rh X Y a b = false) : cutE rx ry rw_ rh X Y a b = 5 := by unfold cutE; rw [if_neg (by simpa using h), if_neg (by rw [h2]; decide)]
theorem cut_3 {rx ry rw_ rh X Y a b : Int} (h : regErr rx ry rw_ rh = 0) (h2 : insB rx ry rw_ rh X Y a b = true) : cutE rx ry rw_ rh X Y a b = 0 := by unfold cutE; rw [if_neg (by simpa using h), if_pos h2]
theorem repl_flt (n : Nat) : List.replicate n (flt 0) = (List.replicate n 0).map flt := by simp

set_option maxRecDepth 100000 in
theorem cut_ (X Y : Int) (a b : Nat) (A : Option Addr) (n c : Nat) (xs : List Nat) (rx ry rw_ rh : Int) (W : World) (hn : xs.length = n) (hA : FS W A xs) (hN : n = 4 * (a * b)) (hc : n ≤ c) (hcm : c ≤ maxLen) (hX : -1048576 ≤ X ∧ X ≤ 1048576) (hY : -1048576 ≤ Y ∧ Y ≤ 1048576) (ha : 1 ≤ a ∧ a ≤ 256) (hb : 1 ≤ b ∧ b ≤ 256) (hfr : frErr X Y a b n = 0) : Fn_ Try.prog 35 #[.agg #[iv X, iv Y, iv (a : Int), iv (b : Int), .slice A n c], .agg #[iv rx, iv ry, iv rw_, iv rh]] W (fun v H => FrR (cutE rx ry rw_ rh X Y a b) rx ry rw_ rh (cutV xs X Y a b rx ry rw_ rh) v H) := by
  subst hn
  have hab1 := Nat.mul_le_mul ha.1 hb.1
  have hab2 := Nat.mul_le_mul ha.2 hb.2
  have hcast : ((a * b : Nat) : Int) = (a : Int) * (b : Int) := Int.natCast_mul ..
  have h41 : 4 * (a : Int) * (b : Int) = 4 * ((a : Int) * (b : Int)) := Int.mul_assoc ..
  have hcm2 := hcm
  unfold maxLen at hcm2
  refine Fn_.intro Try.func35 rfl rfl (by rfl) ?_
  refine CS.seq ?_
  refine CS.region ?_
  refine RS.box rfl (by rfl) (by rfl) ?_
  intro g2
  refine RS.box rfl (by rfl) (by rfl) ?_
  intro g3
  refine RS.alloc rfl ty26 ?_
  intro g4
  refine RS.q rfl (QO.assign) ?_
  refine RS.nil ?_
  refine thenC_n ?_
  refine CS.seq ?_
  refine CS.seq ?_
  refine CS.region ?_
  first | (refine RS.q rfl (QO.loadB ty26 (by rfl) (by repeat (first | exact List.Mem.head _ | refine List.Mem.tail _ ?_)) (by rfl)) ?_) | (refine RS.q rfl (QO.loadA ty26 (by rfl) (by repeat (first | exact List.Mem.head _ | refine List.Mem.tail _ ?_)) (by rfl) (by rfl)) ?_) | (refine RS.q rfl (QO.loadOA ty26 (by rfl) (by assumption) (by rfl)) ?_)
  refine RS.call rfl (by rfl) ok58 (by rfl) (fun w ho => check _ _ _ _ _ _ _ _) ?_
  rintro _ _ ⟨rfl, rfl⟩
  refine RS.q rfl (QO.assign) ?_
  refine RS.nil ?_
  refine thenC_n ?_
  refine CS.seq ?_
  refine CS.region ?_
  refine RS.q rfl (QO.move) ?_
  refine RS.qv rfl (QO.neq (by rfl) (by rfl)) (congrArg Value.bool (show (frErr X Y (a : Int) (b : Int) xs.length != 0) = false from by rw [hfr]; rfl)) ?_
  refine RS.nil ?_
  refine thenC_n ?_
  refine CS.condF (by rfl) rfl ?_
  refine CS.skip ?_
  refine thenC_n ?_
  refine CS.seq ?_
  refine CS.seq ?_
  refine CS.region ?_
  first | (refine RS.q rfl (QO.loadB ty23 (by rfl) (by repeat (first | exact List.Mem.head _ | refine List.Mem.tail _ ?_)) (by rfl)) ?_) | (refine RS.q rfl (QO.loadA ty23 (by rfl) (by repeat (first | exact List.Mem.head _ | refine List.Mem.tail _ ?_)) (by rfl) (by rfl)) ?_) | (refine RS.q rfl (QO.loadOA ty23 (by rfl) (by assumption) (by rfl)) ?_)
  refine RS.call rfl (by rfl) ok89 (by rfl) (fun w ho => checkRegion _ _ _ _ _) ?_
  rintro _ _ ⟨rfl, rfl⟩
  refine RS.q rfl (QO.assign) ?_
  refine RS.nil ?_
  refine thenC_n ?_
  refine CS.seq ?_
  refine CS.region ?_
  refine RS.q rfl (QO.move) ?_
  refine RS.q rfl (QO.neq (by rfl) (by rfl)) ?_
  refine RS.nil ?_
  refine thenC_n ?_
  refine CS.cond (by rfl) (fun hb0 => ?_) (fun hb0 => ?_)
  · have hb0p := bne_iff_ne.1 hb0
    refine CS.seq ?_
    refine CS.region ?_
    refine RS.q rfl (QO.build ty26 pl26 (by rfl)) ?_
    refine RS.q rfl (QO.move) ?_
    first | refine RS.storeB ty26 (by rfl) (by rfl) (by rfl) (by rfl) (by rfl) (by repeat (first | exact Upd.head | apply Upd.tail)) (by rfl) ?_ | refine RS.storeP ty26 (by rfl) (by rfl) (by rfl) (by rfl) (by rfl) (by repeat (first | exact Upd.head | apply Upd.tail)) (by rfl) ?_
    refine RS.q rfl (QO.assign) ?_
    refine RS.nil ?_
    refine thenC_n ?_
    refine CS.ret ?_
    refine thenC_r ?_
    refine retQ.mk (H' := []) (.inr rfl) (RVs.cellA ty26 (by rfl) (by repeat (first | exact List.Mem.head _ | refine List.Mem.tail _ ?_)) (by rfl) (RVs.tmp (by rfl) RVs.nil)) (List.nil_sublist _) ?_
    exact FrR.mkE (cut_1 hb0p) hb0p
  · have hb0p := of_bne_false hb0
    refine CS.skip ?_
    refine thenC_n ?_
    refine CS.seq ?_
    refine CS.seq ?_
    refine CS.region ?_
    have hr := regErr_ok (of_bne_false hb0)
    obtain ⟨u, rfl⟩ : ∃ u : Nat, rw_ = (u : Int) := ⟨rw_.toNat, by omega⟩
    obtain ⟨s, rfl⟩ : ∃ s : Nat, rh = (s : Int) := ⟨rh.toNat, by omega⟩
    have hrc : ((u * s : Nat) : Int) = (u : Int) * (s : Int) := Int.natCast_mul ..
    first | (refine RS.q rfl (QO.loadB ty23 (by rfl) (by repeat (first | exact List.Mem.head _ | refine List.Mem.tail _ ?_)) (by rfl)) ?_) | (refine RS.q rfl (QO.loadA ty23 (by rfl) (by repeat (first | exact List.Mem.head _ | refine List.Mem.tail _ ?_)) (by rfl) (by rfl)) ?_) | (refine RS.q rfl (QO.loadOA ty23 (by rfl) (by assumption) (by rfl)) ?_)
    refine RS.q rfl (QO.fieldAddr fo26_0 (by rfl)) ?_
    first | (refine RS.q rfl (QO.loadB ty23 (by rfl) (by repeat (first | exact List.Mem.head _ | refine List.Mem.tail _ ?_)) (by rfl)) ?_) | (refine RS.q rfl (QO.loadA ty23 (by rfl) (by repeat (first | exact List.Mem.head _ | refine List.Mem.tail _ ?_)) (by rfl) (by rfl)) ?_) | (refine RS.q rfl (QO.loadOA ty23 (by rfl) (by assumption) (by rfl)) ?_)
    refine RS.call rfl (by rfl) ok95 (by rfl) (fun w ho => inside rx ry u s X Y a b _ (by omega) (by omega) (by omega) (by omega) (by omega) (by omega) (by omega) (by omega)) ?_
    rintro _ _ ⟨rfl, rfl⟩
    refine RS.q rfl (QO.not (by rfl)) ?_
    refine RS.nil ?_
    refine thenC_n ?_
    refine CS.cond (by rfl) (fun hb1 => ?_) (fun hb1 => ?_)
    · have hb1p := Eq.mp (Bool.not_eq_true' _) hb1
      refine CS.seq ?_
      refine CS.region ?_
      refine RS.q rfl (QO.build ty26 pl26 (by rfl)) ?_
      first | refine RS.storeB ty26 (by rfl) (by rfl) (by rfl) (by rfl) (by rfl) (by repeat (first | exact Upd.head | apply Upd.tail)) (by rfl) ?_ | refine RS.storeP ty26 (by rfl) (by rfl) (by rfl) (by rfl) (by rfl) (by repeat (first | exact Upd.head | apply Upd.tail)) (by rfl) ?_
      refine RS.q rfl (QO.assign) ?_
      refine RS.nil ?_
      refine thenC_n ?_
      refine CS.ret ?_
      refine thenC_r ?_
      refine retQ.mk (H' := []) (.inr rfl) (RVs.cellA ty26 (by rfl) (by repeat (first | exact List.Mem.head _ | refine List.Mem.tail _ ?_)) (by rfl) (RVs.tmp (by rfl) RVs.nil)) (List.nil_sublist _) ?_
      exact FrR.mkE (cut_2 (of_bne_false hb0) hb1p) (by decide)
    · have hb1p := Eq.mp (Bool.not_eq_false' _) hb1
      refine CS.skip ?_
      refine thenC_n ?_
      refine CS.cut (X := Nat × Nat) [8, 27, 28, 29, 30, 31, 32, 33, 34, 35] (fun z => [(8, .pointer (some ⟨z.1, 0, none⟩))]) (fun z => [⟨z.1, 26, [iv rx, iv ry, iv (u : Int), iv (s : Int), .slice (some ⟨z.2, 0, none⟩) (4 * (u * s)) (4 * (u * s))]⟩, ⟨z.2, 29, (List.replicate (4 * (u * s)) 0).map flt⟩, ⟨g4, 26, [iv 0, iv 0, iv 0, iv 0, .slice none 0 0]⟩, ⟨g2, 26, [iv X, iv Y, iv (a : Int), iv (b : Int), .slice A xs.length c]⟩]) (fun z => True) ?_ ?_
      · refine CS.draw 10 rfl (by kernel_rfl) (by kernel_rfl) ?_
        first | (refine RT.take (i := 0) rfl (by kernel_rfl) rfl (QO.loadB ty23 (by rfl) (by repeat (first | exact List.Mem.head _ | refine List.Mem.tail _ ?_)) (by rfl)) ?_) | (refine RT.take (i := 0) rfl (by kernel_rfl) rfl (QO.loadA ty23 (by rfl) (by repeat (first | exact List.Mem.head _ | refine List.Mem.tail _ ?_)) (by rfl) (by rfl)) ?_) | (refine RT.take (i := 0) rfl (by kernel_rfl) rfl (QO.loadOA ty23 (by rfl) (by assumption) (by rfl)) ?_)
        refine RT.take (i := 1) rfl (by kernel_rfl) rfl (QO.fieldAddr fo23_2 (by rfl)) ?_
        first | (refine RT.take (i := 2) rfl (by kernel_rfl) rfl (QO.load ty3 (by rfl) (by repeat (first | exact List.Mem.head _ | refine List.Mem.tail _ ?_)) (by rfl)) ?_) | (refine RT.take (i := 2) rfl (by kernel_rfl) rfl (QO.loadO ty3 (by rfl) (by assumption)) ?_) | (refine RT.take (i := 2) rfl (by kernel_rfl) rfl (QO.load ty3 (by rfl) (by repeat (first | exact List.Mem.head _ | refine List.Mem.tail _ ?_)) (by assumption)) ?_)
        first | (refine RT.take (i := 3) rfl (by kernel_rfl) rfl (QO.mul (by rfl) (by rfl) (by omega) (by omega)) ?_) | (refine RT.take (i := 3) rfl (by kernel_rfl) rfl (QO.ibin (by rfl) (by rfl) trivial) ?_)
        refine RT.take (i := 4) rfl (by kernel_rfl) rfl (QO.fieldAddr fo23_3 (by rfl)) ?_
        first | (refine RT.take (i := 5) rfl (by kernel_rfl) rfl (QO.load ty3 (by rfl) (by repeat (first | exact List.Mem.head _ | refine List.Mem.tail _ ?_)) (by rfl)) ?_) | (refine RT.take (i := 5) rfl (by kernel_rfl) rfl (QO.loadO ty3 (by rfl) (by assumption)) ?_) | (refine RT.take (i := 5) rfl (by kernel_rfl) rfl (QO.load ty3 (by rfl) (by repeat (first | exact List.Mem.head _ | refine List.Mem.tail _ ?_)) (by assumption)) ?_)
        first | (refine RT.takev (i := 6) rfl (by kernel_rfl) rfl (QO.mul (by rfl) (by rfl) (by omega) (by omega)) (congrArg iv (show 4 * (u : Int) * (s : Int) = ((4 * (u * s) : Nat) : Int) by omega)) ?_) | (refine RT.takev (i := 6) rfl (by kernel_rfl) rfl (QO.ibin (by rfl) (by rfl) trivial) (congrArg iv (show 4 * (u : Int) * (s : Int) = ((4 * (u * s) : Nat) : Int) by omega)) ?_)
        refine RT.two (i := 7) (j := 9) (by kernel_rfl) rfl rfl ?_ ?_
        · refine RS.make rfl Try.underlying24 ty29 (by rfl) (by rfl) (by omega) (by omega) (by omega) (by omega) ?_
          intro g34
          refine RS.nil ⟨(by repeat (first | exact List.Sublist.refl _ | exact List.nil_sublist _ | refine List.Sublist.cons_cons _ ?_ | refine List.Sublist.cons _ ?_ | exact Sbp.refl | exact Sbp.nil | refine Sbp.cons (by repeat (first | exact Rem.head | apply Rem.tail)) ?_ | exact Sbp.app | refine Sbp.skip ?_)), ?_⟩
          refine RT.take (i := 8) rfl (by kernel_rfl) rfl (QO.build ty26 pl26 (by rfl)) ?_
          refine RT.one (i := 9) (by kernel_rfl) rfl rfl ?_
          refine RS.alloc rfl ty26 ?_
          intro g8
          refine RS.nil ⟨(by repeat (first | exact List.Sublist.refl _ | exact List.nil_sublist _ | refine List.Sublist.cons_cons _ ?_ | refine List.Sublist.cons _ ?_ | exact Sbp.refl | exact Sbp.nil | refine Sbp.cons (by repeat (first | exact Rem.head | apply Rem.tail)) ?_ | exact Sbp.app | refine Sbp.skip ?_)), ?_⟩
          refine RT.tail (i := 10) (by kernel_rfl) rfl rfl ?_
          first | refine RS.storeB ty26 (by rfl) (by rfl) (by rfl) (by rfl) (by rfl) (by repeat (first | exact Upd.head | apply Upd.tail)) (by rfl) ?_ | refine RS.storeP ty26 (by rfl) (by rfl) (by rfl) (by rfl) (by rfl) (by repeat (first | exact Upd.head | apply Upd.tail)) (by rfl) ?_
          refine RS.nil ?_
          refine RT.done (by kernel_rfl) ?_
          refine cutQ_n (by intro t ht; repeat (first | with_reducible exact rfl | exact frame_puts ht (frame_mix ht) _ rfl | (refine frame_put rfl ht ?_) | (refine frame_puts ht ?_ _ rfl) | exact frame_mix ht | (refine frame_mix2 rfl ht ?_) | exact rfl)) ?_
          exact ⟨(g8, g34), trivial, (by repeat (first | exact kn_nil | refine kn_cons (by rfl) ?_)), (by rw [← repl_flt]; exact (by repeat (first | exact List.Sublist.refl _ | exact List.nil_sublist _ | refine List.Sublist.cons_cons _ ?_ | refine List.Sublist.cons _ ?_ | exact Sbp.refl | exact Sbp.nil | refine Sbp.cons (by repeat (first | exact Rem.head | apply Rem.tail)) ?_ | exact Sbp.app | refine Sbp.skip ?_)))⟩
        · refine RS.alloc rfl ty26 ?_
          intro g8
          refine RS.nil ⟨(by repeat (first | exact List.Sublist.refl _ | exact List.nil_sublist _ | refine List.Sublist.cons_cons _ ?_ | refine List.Sublist.cons _ ?_ | exact Sbp.refl | exact Sbp.nil | refine Sbp.cons (by repeat (first | exact Rem.head | apply Rem.tail)) ?_ | exact Sbp.app | refine Sbp.skip ?_)), ?_⟩
          refine RT.one (i := 7) (by kernel_rfl) rfl rfl ?_
          refine RS.make rfl Try.underlying24 ty29 (by rfl) (by rfl) (by omega) (by omega) (by omega) (by omega) ?_
          intro g34
          refine RS.nil ⟨(by repeat (first | exact List.Sublist.refl _ | exact List.nil_sublist _ | refine List.Sublist.cons_cons _ ?_ | refine List.Sublist.cons _ ?_ | exact Sbp.refl | exact Sbp.nil | refine Sbp.cons (by repeat (first | exact Rem.head | apply Rem.tail)) ?_ | exact Sbp.app | refine Sbp.skip ?_)), ?_⟩
          refine RT.take (i := 8) rfl (by kernel_rfl) rfl (QO.build ty26 pl26 (by rfl)) ?_
          refine RT.tail (i := 10) (by kernel_rfl) rfl rfl ?_
          first | refine RS.storeB ty26 (by rfl) (by rfl) (by rfl) (by rfl) (by rfl) (by repeat (first | exact Upd.head | apply Upd.tail)) (by rfl) ?_ | refine RS.storeP ty26 (by rfl) (by rfl) (by rfl) (by rfl) (by rfl) (by repeat (first | exact Upd.head | apply Upd.tail)) (by rfl) ?_
          refine RS.nil ?_
          refine RT.done (by kernel_rfl) ?_
          refine cutQ_n (by intro t ht; repeat (first | with_reducible exact rfl | exact frame_puts ht (frame_mix ht) _ rfl | (refine frame_put rfl ht ?_) | (refine frame_puts ht ?_ _ rfl) | exact frame_mix ht | (refine frame_mix2 rfl ht ?_) | exact rfl)) ?_
          exact ⟨(g8, g34), trivial, (by repeat (first | exact kn_nil | refine kn_cons (by rfl) ?_)), (by rw [← repl_flt]; exact (by repeat (first | exact List.Sublist.refl _ | exact List.nil_sublist _ | refine List.Sublist.cons_cons _ ?_ | refine List.Sublist.cons _ ?_ | exact Sbp.refl | exact Sbp.nil | refine Sbp.cons (by repeat (first | exact Rem.head | apply Rem.tail)) ?_ | exact Sbp.app | refine Sbp.skip ?_)))⟩
      · intro z gj hz
        obtain ⟨g, gm⟩ := z
        show CS _ _ _ _ _ (puts (mix _ _ _) [(8, .pointer (some ⟨g, 0, none⟩))]) ([⟨g, 26, [iv rx, iv ry, iv (u : Int), iv (s : Int), .slice (some ⟨gm, 0, none⟩) (4 * (u * s)) (4 * (u * s))]⟩, ⟨gm, 29, (List.replicate (4 * (u * s)) 0).map flt⟩, ⟨g4, 26, [iv 0, iv 0, iv 0, iv 0, .slice none 0 0]⟩, ⟨g2, 26, [iv X, iv Y, iv (a : Int), iv (b : Int), .slice A xs.length c]⟩])
        refine CS.seq ?_
        refine CS.region ?_
        first | (refine RS.q rfl (QO.loadB ty26 (by rfl) (by repeat (first | exact List.Mem.head _ | refine List.Mem.tail _ ?_)) (by rfl)) ?_) | (refine RS.q rfl (QO.loadA ty26 (by rfl) (by repeat (first | exact List.Mem.head _ | refine List.Mem.tail _ ?_)) (by rfl) (by rfl)) ?_) | (refine RS.q rfl (QO.loadOA ty26 (by rfl) (by assumption) (by rfl)) ?_)
        first | (refine RS.q rfl (QO.loadB ty26 (by rfl) (by repeat (first | exact List.Mem.head _ | refine List.Mem.tail _ ?_)) (by rfl)) ?_) | (refine RS.q rfl (QO.loadA ty26 (by rfl) (by repeat (first | exact List.Mem.head _ | refine List.Mem.tail _ ?_)) (by rfl) (by rfl)) ?_) | (refine RS.q rfl (QO.loadOA ty26 (by rfl) (by assumption) (by rfl)) ?_)
        refine RS.callH (⟨gm, 29, (List.replicate (4 * (u * s)) 0).map flt⟩ :: ⟨g, 26, [iv rx, iv ry, iv (u : Int), iv (s : Int), .slice (some ⟨gm, 0, none⟩) (4 * (u * s)) (4 * (u * s))]⟩ :: ⟨g4, 26, [iv 0, iv 0, iv 0, iv 0, .slice none 0 0]⟩ :: []) rfl (by rfl) ok96 (by rfl) (by repeat (first | exact List.Sublist.refl _ | exact List.nil_sublist _ | refine List.Sublist.cons_cons _ ?_ | refine List.Sublist.cons _ ?_ | exact Sbp.refl | exact Sbp.nil | refine Sbp.cons (by repeat (first | exact Rem.head | apply Rem.tail)) ?_ | exact Sbp.app | refine Sbp.skip ?_)) (fun w ho => copyInto rx ry X Y u s a b gm _ _ _ c A _ xs _ _ List.length_replicate rfl rfl hA hN (by omega) (by omega) (by omega) (by omega) hX hY ha hb) ?_
        rintro _ _ ⟨rfl, rfl⟩
        refine RS.nil ?_
        refine thenC_n ?_
        refine CS.seq ?_
        refine CS.region ?_
        first | (refine RS.q rfl (QO.loadB ty26 (by rfl) (by repeat (first | exact List.Mem.head _ | refine List.Mem.tail _ ?_)) (by rfl)) ?_) | (refine RS.q rfl (QO.loadA ty26 (by rfl) (by repeat (first | exact List.Mem.head _ | refine List.Mem.tail _ ?_)) (by rfl) (by rfl)) ?_) | (refine RS.q rfl (QO.loadOA ty26 (by rfl) (by assumption) (by rfl)) ?_)
        first | refine RS.storeB ty26 (by rfl) (by rfl) (by rfl) (by rfl) (by rfl) (by repeat (first | exact Upd.head | apply Upd.tail)) (by rfl) ?_ | refine RS.storeP ty26 (by rfl) (by rfl) (by rfl) (by rfl) (by rfl) (by repeat (first | exact Upd.head | apply Upd.tail)) (by rfl) ?_
        refine RS.q rfl (QO.assign) ?_
        refine RS.nil ?_
        refine thenC_n ?_
        refine CS.ret ?_
        refine retQ.mk (H' := [⟨gm, 29, (cutV xs X Y a b rx ry u s).map flt⟩]) (.inr rfl) (RVs.cellA ty26 (by rfl) (by repeat (first | exact List.Mem.head _ | refine List.Mem.tail _ ?_)) (by rfl) (RVs.tmp (by rfl) RVs.nil)) (by rw [show cutV xs X Y a b rx ry u s = overV (List.replicate (4 * (u * s)) 0) xs rx ry u s X Y a b from (overV_cut (insB_T hb1p).1 (insB_T hb1p).2.1 (by have := insB_T hb1p; omega) (by have := insB_T hb1p; omega)).symm]; exact (by repeat (first | exact List.Sublist.refl _ | exact List.nil_sublist _ | refine List.Sublist.cons_cons _ ?_ | refine List.Sublist.cons _ ?_ | exact Sbp.refl | exact Sbp.nil | refine Sbp.cons (by repeat (first | exact Rem.head | apply Rem.tail)) ?_ | exact Sbp.app | refine Sbp.skip ?_))) ?_
        exact FrR.mk0 (madeV_len ..) (by unfold maxLen; omega) (cut_3 (of_bne_false hb0) hb1p)

def pstE (X Y a b X2 Y2 a2 b2 : Int) : Int := if cmB X Y a b X2 Y2 a2 b2 then 0 else 5
def pstV (xs zs : List Nat) (X Y : Int) (a b : Nat) (X2 Y2 : Int) (a2 b2 : Nat) : List Nat := madeV (pasteF xs zs X Y a b X2 Y2 a2 b2) X Y a (4 * (a * b))
/-- are two frames the same -/
def sameB (x y wi he x' y' wi' he' : Int) (xs xs' : List Nat) : Bool := decide ([x, y, wi, he] = [x', y', wi', he'] ∧ xs.map cl = xs'.map cl)

end Go.Proofs.Ytapcgokcfmklbaa
