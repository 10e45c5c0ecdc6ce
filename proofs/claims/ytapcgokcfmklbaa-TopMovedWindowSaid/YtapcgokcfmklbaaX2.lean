/-
  Part 2 of what the proof leans on (C1, C2, Eq, Pix, C3, C4, C5, C6, C8, Tile, C10, Mut, Cut, C12, Num, Bands, C14, Open2, Matte, Dbl, Dbl2, Dbl3, Dbl4, Dbl5, Dbl6, Dbl7, Win, G1). Conditions: as each theorem says.
-/
import Derived.Test.YtapcgokcfmklbaaX1
import Derived.Test.YtapcgokcfmklbaaRows
import Derived.Laws.StructEq
namespace Go.Proofs.Ytapcgokcfmklbaa
open Go Go.Proofs Go.RowKit

theorem ty3 : tyChk Try.prog 3 = some ([.int .i64 0], false, 8) := by kernel_rfl
theorem fo23_0 : fldOff Try.prog 23 0 = some (0, 3) := by kernel_rfl
theorem fo23_1 : fldOff Try.prog 23 1 = some (1, 3) := by kernel_rfl
theorem fo23_2 : fldOff Try.prog 23 2 = some (2, 3) := by kernel_rfl
theorem fo23_3 : fldOff Try.prog 23 3 = some (3, 3) := by kernel_rfl
theorem ok43 : callOK Try.prog 43 = true := by kernel_rfl
theorem ok57 : callOK Try.prog 57 = true := by kernel_rfl
theorem ok132 : callOK Try.prog 132 = true := by kernel_rfl
theorem ext113 (n : Int) (w : World) : (callFunc 113 [Value.int .u32 n].toArray).run Try.prog w = .ok (.value (.float .f32 n.toNat)) w := by kernel_rfl
theorem ext63 (n : Nat) (w : World) : (callFunc 63 [flt n].toArray).run Try.prog w = .ok (.value (.int .u32 n)) w := by kernel_rfl

set_option maxRecDepth 100000 in
theorem clean (v : Nat) (W : World) : Fn_ Try.prog 57 #[flt v] W (fun v_ H => v_ = flt (cl v) ∧ H = []) := by
  refine Fn_.intro Try.func57 rfl rfl (by rfl) ?_
  refine CS.seq ?_
  refine CS.region ?_
  refine RS.q rfl (QO.assign) ?_
  refine RS.nil ?_
  refine thenC_n ?_
  refine CS.seq ?_
  refine CS.seq ?_
  refine CS.region ?_
  refine RS.q rfl (QO.move) ?_
  refine RS.q rfl (QO.move) ?_
  refine RS.q rfl (QO.fcmp32 (by rfl) (by rfl) (by simp)) ?_
  refine RS.nil ?_
  refine thenC_n ?_
  refine CS.cond (by rfl) (fun hb0 => ?_) (fun hb0 => ?_)
  · refine CS.seq ?_
    refine CS.region ?_
    refine RS.q rfl (QO.ext (by rfl) (ext113 _)) ?_
    refine RS.q rfl (QO.assign) ?_
    refine RS.nil ?_
    refine thenC_n ?_
    refine CS.ret ?_
    refine thenC_r ?_
    refine retQ.mk (H' := []) (.inr rfl) (RVs.tmp (by rfl) RVs.nil) (List.nil_sublist _) ?_
    exact ⟨congrArg flt (cl_nan ((fneq_self _).symm.trans hb0)).symm, rfl⟩
  · refine CS.skip ?_
    refine thenC_n ?_
    refine CS.seq ?_
    refine CS.region ?_
    refine RS.q rfl (QO.move) ?_
    refine RS.q rfl (QO.assign) ?_
    refine RS.nil ?_
    refine thenC_n ?_
    refine CS.ret ?_
    refine retQ.mk (H' := []) (.inr rfl) (RVs.tmp (by rfl) RVs.nil) (List.nil_sublist _) ?_
    exact ⟨congrArg flt (cl_num ((fneq_self _).symm.trans hb0)).symm, rfl⟩

set_option maxRecDepth 100000 in
theorem bits (x : Nat) (W : World) : Fn_ Try.prog 43 #[flt x] W (fun v H => v = .int .u32 (cl x : Nat) ∧ H = []) := by
  refine Fn_.intro Try.func43 rfl rfl (by rfl) ?_
  refine CS.seq ?_
  refine CS.region ?_
  refine RS.q rfl (QO.assign) ?_
  refine RS.nil ?_
  refine thenC_n ?_
  refine CS.seq ?_
  refine CS.region ?_
  refine RS.q rfl (QO.move) ?_
  refine RS.call rfl (by rfl) ok57 (by rfl) (fun w ho => clean _ _) ?_
  rintro _ _ ⟨rfl, rfl⟩
  refine RS.q rfl (QO.ext (by rfl) (ext63 _)) ?_
  refine RS.q rfl (QO.assign) ?_
  refine RS.nil ?_
  refine thenC_n ?_
  refine CS.ret ?_
  refine retQ.mk (H' := []) (.inr rfl) (RVs.tmp (by rfl) RVs.nil) (List.nil_sublist _) ?_
  exact ⟨rfl, rfl⟩

def outR (x s : Int) : Bool := decide (x < -1048576) || decide (1048576 - s < x)
def regErr (x y w h : Int) : Int :=
  if w < 1 ∨ 256 < w ∨ h < 1 ∨ 256 < h then 3 else if 16384 < w * h then 4 else if outR x w = true ∨ outR y h = true then 5 else 0
theorem regErr_ok {x y w h : Int} (e : regErr x y w h = 0) : 1 ≤ w ∧ w ≤ 256 ∧ 1 ≤ h ∧ h ≤ 256 ∧ 1 ≤ w * h ∧ w * h ≤ 16384 ∧ 4 * w * h = 4 * (w * h) ∧ -1048576 ≤ x ∧ x + w ≤ 1048576 ∧ -1048576 ≤ y ∧ y + h ≤ 1048576 := by
  unfold regErr at e
  split at e
  · cases e
  · split at e
    · cases e
    · split at e
      · cases e
      · rename_i h1 h2 h3
        have h4 : 1 * 1 ≤ w * h := Int.mul_le_mul (by omega) (by omega) (by omega) (by omega)
        have h5 : 4 * w * h = 4 * (w * h) := Int.mul_assoc ..
        simp only [outR, not_or, Bool.or_eq_true, decide_eq_true_eq] at h3
        omega
theorem mul_small {w h : Int} (h1 : ¬ w < 1) (h2 : ¬ 256 < w) (h3 : ¬ h < 1) (h4 : ¬ 256 < h) : 1 ≤ w * h ∧ w * h ≤ 65536 := by
  have h5 : 1 * 1 ≤ w * h := Int.mul_le_mul (by omega) (by omega) (by omega) (by omega)
  have h6 : w * h ≤ 256 * 256 := Int.mul_le_mul (by omega) (by omega) (by omega) (by omega)
  omega

set_option maxRecDepth 100000 in
theorem out1 (x s : Int) (W : World) (h : 0 ≤ s) (h2 : s ≤ 256) : Fn_ Try.prog 132 #[iv x, iv s] W (fun v H => v = .bool (outR x s) ∧ H = []) := by
  refine Fn_.intro Try.func132 rfl rfl (by rfl) ?_
  refine CS.seq ?_
  refine CS.region ?_
  refine RS.q rfl (QO.assign) ?_
  refine RS.nil ?_
  refine thenC_n ?_
  refine CS.seq ?_
  refine CS.region ?_
  refine RS.q rfl (QO.move) ?_
  refine RS.q rfl (QO.lss (by rfl) (by rfl)) ?_
  refine RS.q rfl (QO.move) ?_
  refine RS.split (dj := 7) (by rfl) (fun hb0 => ?_) (fun hb0 => ?_)
  · have hb0p := of_decide_eq_true hb0
    refine RS.off (dj := 7) rfl (.inl (congrArg Value.bool hb0)) (fun _ => rfl) rfl ?_
    refine RS.off (dj := 7) rfl (.inl (congrArg Value.bool hb0)) (fun _ => rfl) rfl ?_
    refine RS.off (dj := 7) rfl (.inl (congrArg Value.bool hb0)) (fun _ => rfl) rfl ?_
    refine RS.off (dj := 7) rfl (.inl (congrArg Value.bool hb0)) (fun _ => rfl) rfl ?_
    refine RS.q rfl (QO.pickT (by rfl) hb0 (by rfl)) ?_
    refine RS.q rfl (QO.assign) ?_
    refine RS.nil ?_
    refine thenC_n ?_
    refine CS.ret ?_
    refine retQ.mk (H' := []) (.inr rfl) (RVs.tmp (by rfl) RVs.nil) (List.nil_sublist _) ?_
    exact ⟨congrArg Value.bool (by first | (simp [outR]; done) | (simp [outR]; omega)), rfl⟩
  · have hb0p := of_decide_eq_false hb0
    refine RS.on (dj := 7) rfl (congrArg Value.bool hb0) ?_
    refine RS.q rfl (QO.move) ?_
    refine RS.on (dj := 7) rfl (congrArg Value.bool hb0) ?_
    refine RS.q rfl (QO.move) ?_
    refine RS.on (dj := 7) rfl (congrArg Value.bool hb0) ?_
    first | (refine RS.q rfl (QO.sub (by rfl) (by rfl) (by omega) (by omega)) ?_) | (refine RS.q rfl (QO.ibin (by rfl) (by rfl) trivial) ?_)
    refine RS.on (dj := 7) rfl (congrArg Value.bool hb0) ?_
    refine RS.q rfl (QO.gtr (by rfl) (by rfl)) ?_
    refine RS.q rfl (QO.pickF (by rfl) hb0 (by rfl)) ?_
    refine RS.q rfl (QO.assign) ?_
    refine RS.nil ?_
    refine thenC_n ?_
    refine CS.ret ?_
    refine retQ.mk (H' := []) (.inr rfl) (RVs.tmp (by rfl) RVs.nil) (List.nil_sublist _) ?_
    exact ⟨congrArg Value.bool (by first | (simp [outR]; done) | (simp [outR]; omega)), rfl⟩

set_option maxRecDepth 100000 in
theorem checkRegion (x y wi he : Int) (W : World) : Fn_ Try.prog 89 #[.agg #[iv x, iv y, iv wi, iv he]] W (fun v H => v = iv (regErr x y wi he) ∧ H = []) := by
  refine Fn_.intro Try.func89 rfl rfl (by rfl) ?_
  refine CS.seq ?_
  refine CS.region ?_
  refine RS.box rfl (by rfl) (by rfl) ?_
  intro g1
  refine RS.q rfl (QO.assign) ?_
  refine RS.nil ?_
  refine thenC_n ?_
  refine CS.seq ?_
  refine CS.region ?_
  refine RS.q rfl (QO.assign) ?_
  refine RS.nil ?_
  refine thenC_n ?_
  refine CS.seq ?_
  refine CS.block ?_
  refine CS.seq ?_
  refine CS.region ?_
  refine RS.q rfl (QO.fieldAddr fo23_2 (by rfl)) ?_
  first | (refine RS.q rfl (QO.load ty3 (by rfl) (by repeat (first | exact List.Mem.head _ | refine List.Mem.tail _ ?_)) (by rfl)) ?_) | (refine RS.q rfl (QO.loadO ty3 (by rfl) (by assumption)) ?_) | (refine RS.q rfl (QO.load ty3 (by rfl) (by repeat (first | exact List.Mem.head _ | refine List.Mem.tail _ ?_)) (by assumption)) ?_)
  refine RS.q rfl (QO.lss (by rfl) (by rfl)) ?_
  refine RS.q rfl (QO.move) ?_
  refine RS.split (dj := 8) (by rfl) (fun hb0 => ?_) (fun hb0 => ?_)
  · have hb0p := of_decide_eq_true hb0
    refine RS.off (dj := 8) rfl (.inl (congrArg Value.bool hb0)) (fun _ => rfl) rfl ?_
    refine RS.off (dj := 8) rfl (.inl (congrArg Value.bool hb0)) (fun _ => rfl) rfl ?_
    refine RS.off (dj := 8) rfl (.inl (congrArg Value.bool hb0)) (fun _ => rfl) rfl ?_
    refine RS.q rfl (QO.pickT (by rfl) hb0 (by rfl)) ?_
    refine RS.q rfl (QO.move) ?_
    refine RS.off (dj := 13) rfl (.inl (congrArg Value.bool rfl)) (fun _ => rfl) rfl ?_
    refine RS.off (dj := 13) rfl (.inl (congrArg Value.bool rfl)) (fun _ => rfl) rfl ?_
    refine RS.off (dj := 13) rfl (.inl (congrArg Value.bool rfl)) (fun _ => rfl) rfl ?_
    refine RS.q rfl (QO.pickT (by rfl) rfl (by rfl)) ?_
    refine RS.q rfl (QO.move) ?_
    refine RS.off (dj := 18) rfl (.inl (congrArg Value.bool rfl)) (fun _ => rfl) rfl ?_
    refine RS.off (dj := 18) rfl (.inl (congrArg Value.bool rfl)) (fun _ => rfl) rfl ?_
    refine RS.off (dj := 18) rfl (.inl (congrArg Value.bool rfl)) (fun _ => rfl) rfl ?_
    refine RS.q rfl (QO.pickT (by rfl) rfl (by rfl)) ?_
    refine RS.q rfl (QO.assign) ?_
    refine RS.nil ?_
    refine thenC_n ?_
    refine CS.condT (by rfl) rfl ?_
    refine CS.seq ?_
    refine CS.region ?_
    refine RS.q rfl (QO.assign) ?_
    refine RS.nil ?_
    refine thenC_n ?_
    refine CS.ret ?_
    refine blockC_r ?_
    refine thenC_r ?_
    refine retQ.mk (H' := []) (.inr rfl) (RVs.tmp (by rfl) RVs.nil) (List.nil_sublist _) ?_
    exact ⟨congrArg iv (by first | (unfold regErr; simp only [*]; done) | (unfold regErr; simp [*]; done) | (unfold regErr; simp [*]; omega)), rfl⟩
  · have hb0p := of_decide_eq_false hb0
    refine RS.on (dj := 8) rfl (congrArg Value.bool hb0) ?_
    refine RS.q rfl (QO.fieldAddr fo23_2 (by rfl)) ?_
    refine RS.on (dj := 8) rfl (congrArg Value.bool hb0) ?_
    first | (refine RS.q rfl (QO.load ty3 (by rfl) (by repeat (first | exact List.Mem.head _ | refine List.Mem.tail _ ?_)) (by rfl)) ?_) | (refine RS.q rfl (QO.loadO ty3 (by rfl) (by assumption)) ?_) | (refine RS.q rfl (QO.load ty3 (by rfl) (by repeat (first | exact List.Mem.head _ | refine List.Mem.tail _ ?_)) (by assumption)) ?_)
    refine RS.on (dj := 8) rfl (congrArg Value.bool hb0) ?_
    refine RS.q rfl (QO.gtr (by rfl) (by rfl)) ?_
    refine RS.q rfl (QO.pickF (by rfl) hb0 (by rfl)) ?_
    refine RS.q rfl (QO.move) ?_
    refine RS.split (dj := 13) (by rfl) (fun hb1 => ?_) (fun hb1 => ?_)
    · have hb1p := of_decide_eq_true hb1
      refine RS.off (dj := 13) rfl (.inl (congrArg Value.bool hb1)) (fun _ => rfl) rfl ?_
      refine RS.off (dj := 13) rfl (.inl (congrArg Value.bool hb1)) (fun _ => rfl) rfl ?_
      refine RS.off (dj := 13) rfl (.inl (congrArg Value.bool hb1)) (fun _ => rfl) rfl ?_
      refine RS.q rfl (QO.pickT (by rfl) hb1 (by rfl)) ?_
      refine RS.q rfl (QO.move) ?_
      refine RS.off (dj := 18) rfl (.inl (congrArg Value.bool rfl)) (fun _ => rfl) rfl ?_
      refine RS.off (dj := 18) rfl (.inl (congrArg Value.bool rfl)) (fun _ => rfl) rfl ?_
      refine RS.off (dj := 18) rfl (.inl (congrArg Value.bool rfl)) (fun _ => rfl) rfl ?_
      refine RS.q rfl (QO.pickT (by rfl) rfl (by rfl)) ?_
      refine RS.q rfl (QO.assign) ?_
      refine RS.nil ?_
      refine thenC_n ?_
      refine CS.condT (by rfl) rfl ?_
      refine CS.seq ?_
      refine CS.region ?_
      refine RS.q rfl (QO.assign) ?_
      refine RS.nil ?_
      refine thenC_n ?_
      refine CS.ret ?_
      refine blockC_r ?_
      refine thenC_r ?_
      refine retQ.mk (H' := []) (.inr rfl) (RVs.tmp (by rfl) RVs.nil) (List.nil_sublist _) ?_
      exact ⟨congrArg iv (by first | (unfold regErr; simp only [*]; done) | (unfold regErr; simp [*]; done) | (unfold regErr; simp [*]; omega)), rfl⟩
    · have hb1p := of_decide_eq_false hb1
      refine RS.on (dj := 13) rfl (congrArg Value.bool hb1) ?_
      refine RS.q rfl (QO.fieldAddr fo23_3 (by rfl)) ?_
      refine RS.on (dj := 13) rfl (congrArg Value.bool hb1) ?_
      first | (refine RS.q rfl (QO.load ty3 (by rfl) (by repeat (first | exact List.Mem.head _ | refine List.Mem.tail _ ?_)) (by rfl)) ?_) | (refine RS.q rfl (QO.loadO ty3 (by rfl) (by assumption)) ?_) | (refine RS.q rfl (QO.load ty3 (by rfl) (by repeat (first | exact List.Mem.head _ | refine List.Mem.tail _ ?_)) (by assumption)) ?_)
      refine RS.on (dj := 13) rfl (congrArg Value.bool hb1) ?_
      refine RS.q rfl (QO.lss (by rfl) (by rfl)) ?_
      refine RS.q rfl (QO.pickF (by rfl) hb1 (by rfl)) ?_
      refine RS.q rfl (QO.move) ?_
      refine RS.split (dj := 18) (by rfl) (fun hb2 => ?_) (fun hb2 => ?_)
      · have hb2p := of_decide_eq_true hb2
        refine RS.off (dj := 18) rfl (.inl (congrArg Value.bool hb2)) (fun _ => rfl) rfl ?_
        refine RS.off (dj := 18) rfl (.inl (congrArg Value.bool hb2)) (fun _ => rfl) rfl ?_
        refine RS.off (dj := 18) rfl (.inl (congrArg Value.bool hb2)) (fun _ => rfl) rfl ?_
        refine RS.q rfl (QO.pickT (by rfl) hb2 (by rfl)) ?_
        refine RS.q rfl (QO.assign) ?_
        refine RS.nil ?_
        refine thenC_n ?_
        refine CS.condT (by rfl) rfl ?_
        refine CS.seq ?_
        refine CS.region ?_
        refine RS.q rfl (QO.assign) ?_
        refine RS.nil ?_
        refine thenC_n ?_
        refine CS.ret ?_
        refine blockC_r ?_
        refine thenC_r ?_
        refine retQ.mk (H' := []) (.inr rfl) (RVs.tmp (by rfl) RVs.nil) (List.nil_sublist _) ?_
        exact ⟨congrArg iv (by first | (unfold regErr; simp only [*]; done) | (unfold regErr; simp [*]; done) | (unfold regErr; simp [*]; omega)), rfl⟩
      · have hb2p := of_decide_eq_false hb2
        refine RS.on (dj := 18) rfl (congrArg Value.bool hb2) ?_
        refine RS.q rfl (QO.fieldAddr fo23_3 (by rfl)) ?_
        refine RS.on (dj := 18) rfl (congrArg Value.bool hb2) ?_
        first | (refine RS.q rfl (QO.load ty3 (by rfl) (by repeat (first | exact List.Mem.head _ | refine List.Mem.tail _ ?_)) (by rfl)) ?_) | (refine RS.q rfl (QO.loadO ty3 (by rfl) (by assumption)) ?_) | (refine RS.q rfl (QO.load ty3 (by rfl) (by repeat (first | exact List.Mem.head _ | refine List.Mem.tail _ ?_)) (by assumption)) ?_)
        refine RS.on (dj := 18) rfl (congrArg Value.bool hb2) ?_
        refine RS.q rfl (QO.gtr (by rfl) (by rfl)) ?_
        refine RS.q rfl (QO.pickF (by rfl) hb2 (by rfl)) ?_
        refine RS.q rfl (QO.assign) ?_
        refine RS.nil ?_
        refine thenC_n ?_
        refine CS.cond (by rfl) (fun hb3 => ?_) (fun hb3 => ?_)
        · have hb3p := of_decide_eq_true hb3
          refine CS.seq ?_
          refine CS.region ?_
          refine RS.q rfl (QO.assign) ?_
          refine RS.nil ?_
          refine thenC_n ?_
          refine CS.ret ?_
          refine blockC_r ?_
          refine thenC_r ?_
          refine retQ.mk (H' := []) (.inr rfl) (RVs.tmp (by rfl) RVs.nil) (List.nil_sublist _) ?_
          exact ⟨congrArg iv (by first | (unfold regErr; simp only [*]; done) | (unfold regErr; simp [*]; done) | (unfold regErr; simp [*]; omega)), rfl⟩
        · have hb3p := of_decide_eq_false hb3
          refine CS.seq ?_
          refine CS.region ?_
          have hms := mul_small (w := wi) (h := he) (by omega) (by omega) (by omega) (by omega)
          refine RS.q rfl (QO.fieldAddr fo23_2 (by rfl)) ?_
          first | (refine RS.q rfl (QO.load ty3 (by rfl) (by repeat (first | exact List.Mem.head _ | refine List.Mem.tail _ ?_)) (by rfl)) ?_) | (refine RS.q rfl (QO.loadO ty3 (by rfl) (by assumption)) ?_) | (refine RS.q rfl (QO.load ty3 (by rfl) (by repeat (first | exact List.Mem.head _ | refine List.Mem.tail _ ?_)) (by assumption)) ?_)
          refine RS.q rfl (QO.fieldAddr fo23_3 (by rfl)) ?_
          first | (refine RS.q rfl (QO.load ty3 (by rfl) (by repeat (first | exact List.Mem.head _ | refine List.Mem.tail _ ?_)) (by rfl)) ?_) | (refine RS.q rfl (QO.loadO ty3 (by rfl) (by assumption)) ?_) | (refine RS.q rfl (QO.load ty3 (by rfl) (by repeat (first | exact List.Mem.head _ | refine List.Mem.tail _ ?_)) (by assumption)) ?_)
          first | (refine RS.q rfl (QO.mul (by rfl) (by rfl) (by omega) (by omega)) ?_) | (refine RS.q rfl (QO.ibin (by rfl) (by rfl) trivial) ?_)
          refine RS.q rfl (QO.gtr (by rfl) (by rfl)) ?_
          refine RS.q rfl (QO.assign) ?_
          refine RS.nil ?_
          refine thenC_n ?_
          refine CS.cond (by rfl) (fun hb4 => ?_) (fun hb4 => ?_)
          · have hb4p := of_decide_eq_true hb4
            refine CS.seq ?_
            refine CS.region ?_
            refine RS.q rfl (QO.assign) ?_
            refine RS.nil ?_
            refine thenC_n ?_
            refine CS.ret ?_
            refine blockC_r ?_
            refine thenC_r ?_
            refine retQ.mk (H' := []) (.inr rfl) (RVs.tmp (by rfl) RVs.nil) (List.nil_sublist _) ?_
            exact ⟨congrArg iv (by first | (unfold regErr; simp only [*]; done) | (unfold regErr; simp [*]; done) | (unfold regErr; simp [*]; omega)), rfl⟩
          · have hb4p := of_decide_eq_false hb4
            refine CS.seq ?_
            refine CS.region ?_
            refine RS.q rfl (QO.move) ?_
            refine RS.q rfl (QO.fieldAddr fo23_0 (by rfl)) ?_
            first | (refine RS.q rfl (QO.load ty3 (by rfl) (by repeat (first | exact List.Mem.head _ | refine List.Mem.tail _ ?_)) (by rfl)) ?_) | (refine RS.q rfl (QO.loadO ty3 (by rfl) (by assumption)) ?_) | (refine RS.q rfl (QO.load ty3 (by rfl) (by repeat (first | exact List.Mem.head _ | refine List.Mem.tail _ ?_)) (by assumption)) ?_)
            refine RS.q rfl (QO.fieldAddr fo23_2 (by rfl)) ?_
            first | (refine RS.q rfl (QO.load ty3 (by rfl) (by repeat (first | exact List.Mem.head _ | refine List.Mem.tail _ ?_)) (by rfl)) ?_) | (refine RS.q rfl (QO.loadO ty3 (by rfl) (by assumption)) ?_) | (refine RS.q rfl (QO.load ty3 (by rfl) (by repeat (first | exact List.Mem.head _ | refine List.Mem.tail _ ?_)) (by assumption)) ?_)
            refine RS.call rfl (by rfl) ok132 (by rfl) (fun w ho => out1 _ _ _ (by omega) (by omega)) ?_
            rintro _ _ ⟨rfl, rfl⟩
            refine RS.q rfl (QO.move) ?_
            refine RS.split (dj := 37) (by rfl) (fun hb5 => ?_) (fun hb5 => ?_)
            · refine RS.off (dj := 37) rfl (.inl (congrArg Value.bool hb5)) (fun _ => rfl) rfl ?_
              refine RS.off (dj := 37) rfl (.inl (congrArg Value.bool hb5)) (fun _ => rfl) rfl ?_
              refine RS.off (dj := 37) rfl (.inl (congrArg Value.bool hb5)) (fun _ => rfl) rfl ?_
              refine RS.off (dj := 37) rfl (.inl (congrArg Value.bool hb5)) (fun _ => rfl) rfl ?_
              refine RS.off (dj := 37) rfl (.inl (congrArg Value.bool hb5)) (fun _ => rfl) rfl ?_
              refine RS.off (dj := 37) rfl (.inl (congrArg Value.bool hb5)) (fun _ => rfl) rfl ?_
              refine RS.q rfl (QO.pickT (by rfl) hb5 (by rfl)) ?_
              refine RS.q rfl (QO.assign) ?_
              refine RS.nil ?_
              refine thenC_n ?_
              refine CS.condT (by rfl) rfl ?_
              refine CS.seq ?_
              refine CS.region ?_
              refine RS.q rfl (QO.assign) ?_
              refine RS.nil ?_
              refine thenC_n ?_
              refine CS.ret ?_
              refine blockC_r ?_
              refine thenC_r ?_
              refine retQ.mk (H' := []) (.inr rfl) (RVs.tmp (by rfl) RVs.nil) (List.nil_sublist _) ?_
              exact ⟨congrArg iv (by first | (unfold regErr; simp only [*]; done) | (unfold regErr; simp [*]; done) | (unfold regErr; simp [*]; omega)), rfl⟩
            · refine RS.on (dj := 37) rfl (congrArg Value.bool hb5) ?_
              refine RS.q rfl (QO.move) ?_
              refine RS.on (dj := 37) rfl (congrArg Value.bool hb5) ?_
              refine RS.q rfl (QO.fieldAddr fo23_1 (by rfl)) ?_
              refine RS.on (dj := 37) rfl (congrArg Value.bool hb5) ?_
              first | (refine RS.q rfl (QO.load ty3 (by rfl) (by repeat (first | exact List.Mem.head _ | refine List.Mem.tail _ ?_)) (by rfl)) ?_) | (refine RS.q rfl (QO.loadO ty3 (by rfl) (by assumption)) ?_) | (refine RS.q rfl (QO.load ty3 (by rfl) (by repeat (first | exact List.Mem.head _ | refine List.Mem.tail _ ?_)) (by assumption)) ?_)
              refine RS.on (dj := 37) rfl (congrArg Value.bool hb5) ?_
              refine RS.q rfl (QO.fieldAddr fo23_3 (by rfl)) ?_
              refine RS.on (dj := 37) rfl (congrArg Value.bool hb5) ?_
              first | (refine RS.q rfl (QO.load ty3 (by rfl) (by repeat (first | exact List.Mem.head _ | refine List.Mem.tail _ ?_)) (by rfl)) ?_) | (refine RS.q rfl (QO.loadO ty3 (by rfl) (by assumption)) ?_) | (refine RS.q rfl (QO.load ty3 (by rfl) (by repeat (first | exact List.Mem.head _ | refine List.Mem.tail _ ?_)) (by assumption)) ?_)
              refine RS.on (dj := 37) rfl (congrArg Value.bool hb5) ?_
              refine RS.call rfl (by rfl) ok132 (by rfl) (fun w ho => out1 _ _ _ (by omega) (by omega)) ?_
              rintro _ _ ⟨rfl, rfl⟩
              refine RS.q rfl (QO.pickF (by rfl) hb5 (by rfl)) ?_
              refine RS.q rfl (QO.assign) ?_
              refine RS.nil ?_
              refine thenC_n ?_
              refine CS.cond (by rfl) (fun hb6 => ?_) (fun hb6 => ?_)
              · refine CS.seq ?_
                refine CS.region ?_
                refine RS.q rfl (QO.assign) ?_
                refine RS.nil ?_
                refine thenC_n ?_
                refine CS.ret ?_
                refine blockC_r ?_
                refine thenC_r ?_
                refine retQ.mk (H' := []) (.inr rfl) (RVs.tmp (by rfl) RVs.nil) (List.nil_sublist _) ?_
                exact ⟨congrArg iv (by first | (unfold regErr; simp only [*]; done) | (unfold regErr; simp [*]; done) | (unfold regErr; simp [*]; omega)), rfl⟩
              · refine CS.skip ?_
                refine blockC_n ?_
                refine thenC_n ?_
                refine CS.seq ?_
                refine CS.region ?_
                refine RS.q rfl (QO.assign) ?_
                refine RS.nil ?_
                refine thenC_n ?_
                refine CS.ret ?_
                refine retQ.mk (H' := []) (.inr rfl) (RVs.tmp (by rfl) RVs.nil) (List.nil_sublist _) ?_
                exact ⟨congrArg iv (by first | (unfold regErr; simp only [*]; done) | (unfold regErr; simp [*]; done) | (unfold regErr; simp [*]; omega)), rfl⟩

def inB (n l h : Int) : Bool := decide (l ≤ n) && decide (n ≤ h)
end Go.Proofs.Ytapcgokcfmklbaa

namespace Go.Proofs.Ytapcgokcfmklbaa
open Go Go.Proofs Go.RowKit

theorem ty23 : tyChk Try.prog 23 = some ([.int .i64 0, .int .i64 0, .int .i64 0, .int .i64 0], true, 32) := by kernel_rfl
theorem ty24 : tyChk Try.prog 24 = some ([.slice none 0 0], false, 24) := by kernel_rfl
theorem ty29 : tyChk Try.prog 29 = some ([.float .f32 0], false, 4) := by kernel_rfl
theorem ok89 : callOK Try.prog 89 = true := by kernel_rfl
def frErr (x y w h : Int) (n : Nat) : Int := if regErr x y w h ≠ 0 then regErr x y w h else if (n : Int) ≠ 4 * w * h then 2 else 0
/-- what Plane comes to -/
def PlaneR (x y wi he : Int) (xs : List Nat) (ch : Int) (v : Value) (H : HL) : Prop :=
  (frErr x y wi he xs.length ≠ 0 ∧ v = .tuple #[.slice none 0 0, iv (frErr x y wi he xs.length)] ∧ H = []) ∨
  (frErr x y wi he xs.length = 0 ∧ (ch < 0 ∨ 3 < ch) ∧ v = .tuple #[.slice none 0 0, iv 3] ∧ H = []) ∨
  (frErr x y wi he xs.length = 0 ∧ 0 ≤ ch ∧ ch ≤ 3 ∧ ∃ g, v = .tuple #[.slice (some ⟨g, 0, none⟩) (wi * he).toNat (wi * he).toNat, iv 0] ∧ H = [⟨g, 29, (planeV xs ch (wi * he).toNat).map flt⟩])

theorem PlaneR.ok {x y wi he : Int} {xs : List Nat} {ch : Int} {v : Value} {H : HL} (h : PlaneR x y wi he xs ch v H) (e : frErr x y wi he xs.length = 0) (h0 : 0 ≤ ch) (h3 : ch ≤ 3) :
    ∃ g, v = .tuple #[.slice (some ⟨g, 0, none⟩) (wi * he).toNat (wi * he).toNat, iv 0] ∧ H = [⟨g, 29, (planeV xs ch (wi * he).toNat).map flt⟩] := by
  rcases h with ⟨h, _⟩ | ⟨_, h, _⟩ | ⟨_, _, _, h⟩
  · exact absurd e h
  · omega
  · exact h
/-- the sum of a channel -/
def chanF (xs : List Nat) (m : Nat) (ch : Nat) : Nat := Go.Proofs.Ytapcgokcfmklbaa.sum (planeV xs (ch : Int) m)
end Go.Proofs.Ytapcgokcfmklbaa

namespace Go.Proofs.Ytapcgokcfmklbaa
open Go Go.RowKit

def intFields (P : Program) : Nat → List Field → Bool
  | _, [] => true
  | o, f :: fs => f.name != "_" && f.offset == o && (match P.underlying f.type with | some (.int .i64) => true | _ => false) && (match tyChk P f.type with | some ([_], false, _) => true | _ => false) && intFields P (o + 1) fs
def intsT (P : Program) (t : TypeId) : Nat :=
  match P.underlying t with
  | some (.struct fs) => if P.stoodInHeld t = false ∧ P.eqGuardType P.depth t = false ∧ intFields P 0 fs.toList = true then fs.size else 0
  | _ => 0
section
variable {P : Program} {W : World} {H : HL} {e : Env} {x y : Operand} {t t' ty : TypeId}
end
end Go.Proofs.Ytapcgokcfmklbaa

namespace Go.Proofs.Ytapcgokcfmklbaa
open Go Go.RowKit

/-- A pixel. -/
abbrev pxv (q : Nat → Nat) : Value := .agg #[flt (q 0), flt (q 1), flt (q 2), flt (q 3)]
/-- The numbers of a frame that is made pixel by pixel. -/
def madeF (p : Int → Int → Nat → Nat) (x y : Int) (w : Nat) (i : Nat) : Nat := cl (p (x + ((i / 4 % w : Nat) : Int)) (y + ((i / 4 / w : Nat) : Int)) (i % 4))
def madeV (p : Int → Int → Nat → Nat) (x y : Int) (w m : Nat) : List Nat := (List.range m).map (madeF p x y w)
def near (x X : Int) (w : Nat) : Int := min (max X x) (x + w - 1)
/-- A number of a pixel of a frame. -/
def pixF (xs : List Nat) (x y : Int) (w h : Nat) (X Y : Int) (c : Nat) : Nat := xs.getD (4 * ((near y Y h - y).toNat * w + (near x X w - x).toNat) + c) 0
end Go.Proofs.Ytapcgokcfmklbaa

namespace Go.Proofs.Ytapcgokcfmklbaa
open Go Go.Proofs Go.RowKit

/-- A frame that a call hands back: its numbers stand in a block of its own. -/
def MadeR (x y wi he : Int) (vals : List Nat) (v : Value) (H : HL) : Prop := ∃ g cap junk, v = .agg #[iv x, iv y, iv wi, iv he, .slice (some ⟨g, 0, none⟩) vals.length cap] ∧ H = [⟨g, 29, vals.map flt ++ junk⟩] ∧ vals.length ≤ cap ∧ cap ≤ maxLen
/-- the numbers of a frame whose pixels are turned one by one -/
def eachV (T : Nat → (Nat → Nat) → Nat) (xs : List Nat) (m : Nat) : List Nat := (List.range m).map fun i => cl (T (i % 4) fun c => xs.getD (4 * (i / 4) + c) 0)
end Go.Proofs.Ytapcgokcfmklbaa

namespace Go.Proofs.Ytapcgokcfmklbaa
open Go Go.Proofs Go.RowKit

/-- Planes that come in: four slices. -/
abbrev plsv (A : Nat → Option Addr) (n c : Nat → Nat) : List Value := [.slice (A 0) (n 0) (c 0), .slice (A 1) (n 1) (c 1), .slice (A 2) (n 2) (c 2), .slice (A 3) (n 3) (c 3)]
/-- what FromPlanes finds -/
def fpErr (x y wi he : Int) (n : Nat → Nat) : Int := if regErr x y wi he ≠ 0 then regErr x y wi he else if (List.range 4).all (fun k => decide ((n k : Int) = wi * he)) = true then 0 else 2
theorem fpErr_ok {x y wi he : Int} {n : Nat → Nat} (h : regErr x y wi he = 0) (hn : ∀ k, k < 4 → (n k : Int) = wi * he) : fpErr x y wi he n = 0 := by
  unfold fpErr
  rw [if_neg (by simpa using h), if_pos (List.all_eq_true.2 fun k hk => by simpa using hn k (List.mem_range.1 hk))]
/-- the numbers of a frame of planes -/
def fpV (xs : Nat → List Nat) (N : Nat) : List Nat := (List.range N).map fun i => cl ((xs (i % 4)).getD (i / 4) 0)
def FPR (x y wi he : Int) (n : Nat → Nat) (xs : Nat → List Nat) (v : Value) (H : HL) : Prop :=
  (fpErr x y wi he n ≠ 0 ∧ v = .tuple #[.agg #[iv 0, iv 0, iv 0, iv 0, .slice none 0 0], iv (fpErr x y wi he n)] ∧ H = []) ∨
  (fpErr x y wi he n = 0 ∧ ∃ (g N : Nat), (N : Int) = 4 * wi * he ∧ v = .tuple #[.agg #[iv x, iv y, iv wi, iv he, .slice (some ⟨g, 0, none⟩) N N], iv 0] ∧ H = [⟨g, 29, (fpV xs N).map flt⟩])

end Go.Proofs.Ytapcgokcfmklbaa

namespace Go.Proofs.Ytapcgokcfmklbaa
open Go Go.Proofs Go.RowKit

/-- four planes, as far as they are there -/
def gsL (G : Nat → Nat) (m k : Nat) : List Value := (List.range 4).map fun i => if i < k then .slice (some ⟨G i, 0, none⟩) m m else .slice none 0 0
theorem fpV_planes (ys : List Nat) (m : Nat) (h : ys.length = 4 * m) : fpV (fun i => planeV ys (i : Int) m) (4 * m) = ys.map cl := by
  unfold fpV
  apply List.ext_getElem
  · simp [h]
  · intro i h1 h2
    simp at h1 h2
    have h3 : i / 4 < m := by omega
    have h4 : (planeV ys ((i % 4 : Nat) : Int) m)[i / 4]? = some (planeF ys ((i % 4 : Nat) : Int) (i / 4)) := by
      unfold planeV
      rw [List.getElem?_map, List.getElem?_range h3]; rfl
    have h5 : (4 * ((i / 4 : Nat) : Int) + ((i % 4 : Nat) : Int)).toNat = i := by omega
    simp only [List.getElem_map, List.getElem_range]
    rw [List.getD_eq_getElem?_getD, h4]
    show cl (planeF ys ((i % 4 : Nat) : Int) (i / 4)) = _
    unfold planeF
    rw [cl_cl, h5, getD_at]
theorem FPR.ok {x y : Int} {a b : Nat} {ys : List Nat} {v : Value} {H : HL} (hr : regErr x y a b = 0) (hN : ys.length = 4 * (a * b)) (h : FPR x y a b (fun _ => a * b) (fun i => planeV ys (i : Int) (a * b)) v H) :
    ∃ g, v = .tuple #[.agg #[iv x, iv y, iv (a : Int), iv (b : Int), .slice (some ⟨g, 0, none⟩) ys.length ys.length], iv 0] ∧ H = [⟨g, 29, (ys.map cl).map flt⟩] := by
  have h6 : ((a * b : Nat) : Int) = (a : Int) * (b : Int) := Int.natCast_mul ..
  have h7 : 4 * (a : Int) * (b : Int) = 4 * ((a : Int) * (b : Int)) := Int.mul_assoc ..
  have h0 : fpErr x y a b (fun _ => a * b) = 0 := fpErr_ok hr fun _ _ => h6
  rcases h with ⟨h1, _⟩ | ⟨_, g, N, hNN, rfl, rfl⟩
  · exact absurd h0 h1
  · obtain rfl : N = 4 * (a * b) := by omega
    rw [fpV_planes _ _ hN, ← hN]
    exact ⟨g, rfl, rfl⟩
theorem FPR.any {x y wi he : Int} {n : Nat → Nat} {xs : Nat → List Nat} {v : Value} {H : HL} (h : FPR x y wi he n xs v H) :
    ∃ (x9 y9 w9 h9 : Int) (A9 : Option Addr) (n9 : Nat), v = .tuple #[.agg #[iv x9, iv y9, iv w9, iv h9, .slice A9 n9 n9], iv (fpErr x y wi he n)] ∧ (fpErr x y wi he n ≠ 0 → n9 = 0) := by
  rcases h with ⟨h1, rfl, rfl⟩ | ⟨h1, g, N, hNN, rfl, rfl⟩
  · exact ⟨_, _, _, _, _, _, rfl, fun _ => rfl⟩
  · rw [h1]
    exact ⟨_, _, _, _, _, _, rfl, fun h => absurd rfl h⟩
/-- what the law makes of the planes -/
def wkErr (x y wi he : Int) (n : Nat → Nat) (k : Nat) : Int := if regErr x y wi he ≠ 0 then regErr x y wi he else if (List.range k).all (fun k => decide ((n k : Int) = wi * he)) = true then 0 else 2
end Go.Proofs.Ytapcgokcfmklbaa

namespace Go.Proofs.Ytapcgokcfmklbaa
open Go Go.Proofs Go.RowKit

/-- is the first region inside the second -/
def insB (ax ay aw ah bx bz bw bh : Int) : Bool := decide (bx ≤ ax ∧ bz ≤ ay ∧ ax ≤ bx + bw - aw ∧ ay ≤ bz + bh - ah)
def smallI (x : Int) : Prop := -4611686018427387904 ≤ x ∧ x ≤ 2305843009213693952

/-- a frame brought to another region -/
def likeV (xs : List Nat) (N : Nat) : List Nat := (List.range N).map fun i => xs.getD (i % xs.length) 0
/-- do the first k numbers of pixel i agree -/
def sameK (ys zs : List Nat) (i k : Nat) : Bool := (List.range k).all fun c => ((cl (ys.getD (4 * i + c) 0) : Nat) : Int) == (cl (zs.getD (4 * i + c) 0) : Nat)
/-- how many of the first m pixels differ -/
def cnt (ys zs : List Nat) : Nat → Nat
  | 0 => 0
  | m + 1 => cnt ys zs m + if sameK ys zs m 4 then 0 else 1
/-- the box holds every pixel that differs -/
def boxOK (ys zs : List Nat) (a : Nat) (k : Nat) (L T R B : Int) : Prop := ∀ i, i < k → sameK ys zs i 4 = false → L ≤ ((i % a : Nat) : Int) ∧ T ≤ ((i / a : Nat) : Int) ∧ ((i % a : Nat) : Int) + 1 ≤ R ∧ ((i / a : Nat) : Int) + 1 ≤ B
end Go.Proofs.Ytapcgokcfmklbaa

namespace Go.Proofs.Ytapcgokcfmklbaa
open Go Go.Proofs Go.RowKit

theorem ty70 : tyChk Try.prog 70 = some ([.int .i64 0, .int .i64 0, .int .i64 0, .int .i64 0, .slice none 0 0], true, 56) := by kernel_rfl
theorem fo70_1 : fldOff Try.prog 70 1 = some (4, 24) := by kernel_rfl
theorem pl70 : places Try.prog 70 = some #[(0, 4), (4, 1)] := by kernel_rfl
/-- what a mix of two numbers gives -/
def lerpV (a b t : Nat) : Nat := if fcmpB .eql t 0 then cl a else if fcmpB .eql t 1065353216 then cl b else fo .add a (fo .mul (fo .sub b a) t)
def f2 {α : Type} (a b : α) (k : Nat) : α := if k = 0 then a else b
/-- what is wrong with a matte -/
def mErr (x y w h : Int) (n : Nat) : Int := if regErr x y w h ≠ 0 then regErr x y w h else if (n : Int) ≠ w * h then 2 else 0
/-- what a call that hands back a frame or an error comes to -/
def FrR (err X Y wi he : Int) (vals : List Nat) (v : Value) (H : HL) : Prop :=
  (err = 0 ∧ ∃ g cap junk, v = .tuple #[.agg #[iv X, iv Y, iv wi, iv he, .slice (some ⟨g, 0, none⟩) vals.length cap], iv 0] ∧ H = [⟨g, 29, vals.map flt ++ junk⟩] ∧ vals.length ≤ cap ∧ cap ≤ maxLen) ∨
  (err ≠ 0 ∧ v = .tuple #[.agg #[iv 0, iv 0, iv 0, iv 0, .slice none 0 0], iv err] ∧ H = [])
def FV (err X Y wi he : Int) (vals : List Nat) (x y w h : Int) (A : Option Addr) (n : Nat) (H : HL) : Prop :=
  (err ≠ 0 ∧ x = 0 ∧ y = 0 ∧ w = 0 ∧ h = 0 ∧ n = 0) ∨ (err = 0 ∧ x = X ∧ y = Y ∧ w = wi ∧ h = he ∧ n = vals.length ∧ n ≤ maxLen ∧ ∃ g junk, A = some ⟨g, 0, none⟩ ∧ (⟨g, 29, vals.map flt ++ junk⟩ : B) ∈ H)
theorem FrR.any {err X Y wi he : Int} {vals : List Nat} {v : Value} {H : HL} (h : FrR err X Y wi he vals v H) :
    ∃ (x y w h : Int) (A : Option Addr) (n c : Nat), v = .tuple #[.agg #[iv x, iv y, iv w, iv h, .slice A n c], iv err] ∧ FV err X Y wi he vals x y w h A n H := by
  rcases h with ⟨h1, g, cap, junk, rfl, rfl, h2, h3⟩ | ⟨h1, rfl, rfl⟩
  · subst h1
    exact ⟨_, _, _, _, _, _, _, rfl, .inr ⟨rfl, rfl, rfl, rfl, rfl, rfl, by omega, g, junk, rfl, List.Mem.head _⟩⟩
  · exact ⟨_, _, _, _, _, _, _, rfl, .inl ⟨h1, rfl, rfl, rfl, rfl, rfl⟩⟩
/-- the same, in a world -/
def FW (err X Y wi he : Int) (vals : List Nat) (x y w h : Int) (A : Option Addr) (n : Nat) (W : World) : Prop :=
  (err ≠ 0 ∧ x = 0 ∧ y = 0 ∧ w = 0 ∧ h = 0 ∧ n = 0) ∨ (err = 0 ∧ x = X ∧ y = Y ∧ w = wi ∧ h = he ∧ n = vals.length ∧ n ≤ maxLen ∧ FS W A vals)
theorem FS.at_ {W : World} {A : Option Addr} {xs : List Nat} (h : FS W A xs) (i : Nat) (hi : i < xs.length) : ∃ b o, A = some ⟨b, o, none⟩ ∧ W.cell? ⟨b, o + i, none⟩ = some (flt (xs.getD i 0)) := by
  obtain ⟨b, o, h1, h2⟩ := h (by omega)
  exact ⟨b, o, h1, h2 _ _ (by rw [List.getElem?_eq_getElem hi, getD_at])⟩

def thE (e : Int) (r r2 r3 : List Int) : Int := if e ≠ 0 then e else if r = r2 ∧ r = r3 then 0 else 5
def mixV (ys zs : List Nat) (t n : Nat) : List Nat := (List.range n).map fun i => cl (lerpV (ys.getD i 0) (zs.getD i 0) t)
def thrV (ys zs ms : List Nat) (n : Nat) : List Nat := (List.range n).map fun i => cl (lerpV (ys.getD i 0) (zs.getD i 0) (ms.getD (i / 4) 0))

/-- a matte brought to a region -/
def mofF (ms : List Nat) (i : Nat) : Nat := if 0 < ms.length then ms.getD (i % ms.length) 0 else 0
end Go.Proofs.Ytapcgokcfmklbaa

namespace Go.Proofs.Ytapcgokcfmklbaa
open Go Go.RowKit

/-- the place before the first tile -/
def px (X : Int) (s : Nat) : Nat := (X % (s : Int)).toNat
/-- how many tiles -/
def cntI (X : Int) (w s : Nat) : Nat := (px X s + w + s - 1) / s
/-- where tile i begins, and how wide it is -/
def tb (X : Int) (s i : Nat) : Int := max X (X - (px X s : Nat) + ((s * i : Nat) : Int))
def tw (X : Int) (w s i : Nat) : Int := min (X + w) (X - (px X s : Nat) + ((s * i : Nat) : Int) + s) - tb X s i
/-- how much the first i tiles cover -/
def cov (X : Int) (w s i : Nat) : Int := min (w : Int) (max 0 (((s * i : Nat) : Int) - (px X s : Nat)))
abbrev Rg := Int × Int × Int × Int
def rgc (t : Rg) : List Value := [iv t.1, iv t.2.1, iv t.2.2.1, iv t.2.2.2]
def area (t : Rg) : Int := t.2.2.1 * t.2.2.2
def areas : List Rg → Int
  | [] => 0
  | t :: l => area t + areas l
/-- tile (i, j) of a region -/
def tile (X Y : Int) (w h s i j : Nat) : Rg := (tb X s i, tb Y s j, tw X w s i, tw Y h s j)
/-- the tiles of the rows below j -/
def rowsL (X Y : Int) (w h s : Nat) : Nat → List Rg
  | 0 => []
  | j + 1 => rowsL X Y w h s j ++ (List.range (cntI X w s)).map (tile X Y w h s · j)
/-- and of row j the first i -/
def tilesL (X Y : Int) (w h s j i : Nat) : List Rg := rowsL X Y w h s j ++ (List.range i).map (tile X Y w h s · j)
/-- cells of a row of regions -/
def rgs (l : List Rg) : List Value := l.flatMap rgc
theorem rgs_at : ∀ (l : List Rg) (i : Nat) (t : Rg) (j : Nat) (v : Value), l[i]? = some t → (rgc t)[j]? = some v → (rgs l)[i * 4 + j]? = some v
  | [], i, t, j, v, h, _ => by simp at h
  | u :: l, 0, t, j, v, h, hv => by
    simp at h; subst h
    have hj : j < (rgc u).length := (List.getElem?_eq_some_iff.1 hv).1
    show (rgc u ++ rgs l)[0 * 4 + j]? = _
    rw [List.getElem?_append_left (by omega), show 0 * 4 + j = j by omega]
    exact hv
  | u :: l, i + 1, t, j, v, h, hv => by
    show (rgc u ++ rgs l)[(i + 1) * 4 + j]? = _
    have h4 : (rgc u).length = 4 := rfl
    rw [List.getElem?_append_right (by omega), h4, show (i + 1) * 4 + j - 4 = i * 4 + j by omega]
    exact rgs_at l i t j v (by simpa using h) hv
/-- A slice of regions that reads so. -/
def RSl (W : World) (A : Option Addr) (l : List Rg) : Prop := 0 < l.length → ∃ b o, A = some ⟨b, o, none⟩ ∧ ∀ i t, l[i]? = some t → ∀ j v, (rgc t)[j]? = some v → W.cell? ((⟨b, o + i * 4, none⟩ : Addr).add j) = some v
theorem RSl.own {W w : World} {H : HL} {A : Option Addr} {l : List Rg} (h : RSl W A l) (ho : Own W w H) : RSl w A l := fun hn => by
  obtain ⟨b, o, h1, h2⟩ := h hn
  exact ⟨b, o, h1, fun i t hi j v hj => ho.old (h2 i t hi j v hj)⟩
theorem RSl.blk {W w : World} {H : HL} {g : Nat} {t : TypeId} {l : List Rg} {junk : List Value} (ho : Own W w H) (hm : (⟨g, t, rgs l ++ junk⟩ : B) ∈ H) : RSl w (some ⟨g, 0, none⟩) l := fun _ => by
  refine ⟨g, 0, rfl, fun i u hi j v hj => ?_⟩
  rw [addr_add, (ho.blk _ hm).2.cell]
  have h1 := rgs_at l i u j v hi hj
  have h2 : i * 4 + j < (rgs l).length := (List.getElem?_eq_some_iff.1 h1).1
  rw [Nat.zero_add, List.getElem?_append_left h2]
  exact h1
/-! what two regions have in common -/
def cmw (a b c d : Int) : Int := min (a + c) (b + d) - max a b
def cmB (ax ay aw ah bx bz bw bh : Int) : Bool := decide (1 ≤ cmw ax bx aw bw) && decide (1 ≤ cmw ay bz ah bh)
def cmT (ax ay aw ah bx bz bw bh : Int) : Rg := if cmB ax ay aw ah bx bz bw bh = true then (max ax bx, max ay bz, cmw ax bx aw bw, cmw ay bz ah bh) else (0, 0, 0, 0)
section
variable {ax ay aw ah bx bz bw bh : Int}
end
/-! a region grown -/
def gErr (x y w h n e1 e2 : Int) : Int := if e1 ≠ 0 then e1 else if n < -256 ∨ 256 < n then 3 else e2
def gT (x y w h n e : Int) : Rg := if e = 0 then (x - n, y - n, w + 2 * n, h + 2 * n) else (0, 0, 0, 0)
end Go.Proofs.Ytapcgokcfmklbaa

namespace Go.Proofs.Ytapcgokcfmklbaa
open Go Go.Proofs Go.RowKit

def tErr (x y w h side : Int) : Int := if regErr x y w h ≠ 0 then regErr x y w h else if side < 1 ∨ 256 < side then 3 else 0
def tL (x y w h side : Int) : List Rg := if tErr x y w h side = 0 then rowsL x y w.toNat h.toNat side.toNat (cntI y h.toNat side.toNat) else []
end Go.Proofs.Ytapcgokcfmklbaa

namespace Go.Proofs.Ytapcgokcfmklbaa
open Go Go.RowKit

/-- Called over the caller's own blocks H (those beyond W), f hands back a value and leaves blocks that stand in the relation R. -/
def FnH (P : Program) (f : FuncId) (args : Array Value) (W : World) (H : HL) (R : Value → HL → Prop) : Prop :=
  ∀ w, Own W w H → Calls P f args w (fun x w' => ∃ v H', x = .returned v ∧ Own W w' H' ∧ R v H')
theorem FnH.mono {P : Program} {f : FuncId} {args : Array Value} {W : World} {H : HL} {R R' : Value → HL → Prop} (h : FnH P f args W H R) (hr : ∀ v H, R v H → R' v H) : FnH P f args W H R' :=
  fun w ho => Calls.mono (h w ho) fun _ _ ⟨v, H, h1, h2, h3⟩ => ⟨v, H, h1, h2, hr _ _ h3⟩
theorem FnH.intro {P : Program} {W : World} {f : FuncId} {fn : Func} {c : Code} {n : Nat} {args : Array Value} {H : HL} {R : Value → HL → Prop} (hf : P.funcs[f]? = some fn) (hb : fn.body = some c) (hn : fn.ntmps = n) (hargs : Nat.ble args.size n = true)
    (h : CS P W n c (retQ P fn.results R) (argsE args) H) : FnH P f args W H R := by
  subst hn
  intro w0 ho0
  refine calls_of_wp hf hb (wp_mono (h _ _ (rep_start _ _ (Nat.le_of_ble_eq_true hargs)) ho0) fun x a w hq => ?_)
  obtain ⟨e, H, hr, ho, hx, vs, H', hv, hs, hR⟩ := hq
  have hv' := hv.run hr ho
  have key : a.defers = [] ∧ ∃ v, (results fn a.tmps).run P w = .ok v w ∧ ∃ v' H', Ending.returned v = .returned v' ∧ Own W w H' ∧ R v' H' := by
    refine ⟨hr.defers, one vs, ?_, one vs, H', rfl, ho.sub hs, hR⟩
    have hres : results fn a.tmps = (do
        let vs ← fn.results.mapM (resOf a.tmps)
        Pure.pure (if h : vs.size = 1 then vs[0] else .tuple vs)) := by
      unfold results
      congr 1
    rw [hres, Array.mapM_eq_mapM_toList]
    simp only [Sem.run_bind, Sem.run_map, hv', Result.andThen_ok, Sem.run_pure]
    congr 1
    match vs with
    | [] => rfl
    | [v] => rfl
    | v :: u :: l => simp [one]
  rcases hx with rfl | rfl <;> exact key
section
variable {P : Program} {W : World} {n : Nat} {ops : Array Oper} {Q : Env → HL → Prop} {rest : List Oper} {e : Env} {H : HL}
variable {d : Tmp} {ty : TypeId} {pos : String} {af : Array Edge}
end
end Go.Proofs.Ytapcgokcfmklbaa

namespace Go.Proofs.Ytapcgokcfmklbaa
open Go Go.RowKit

def mixL (N : Nat) (P : Nat → Bool) (f : Nat → Nat) (ys : List Nat) : List Nat := (List.range N).map fun i => if P i then f i else ys.getD i 0
/-- the i-th number stands in a rectangle of pixels (columns p .. p + w, rows q .. q + j), or is one of the first k of its row q + j -/
def inP (a p w q j k : Nat) (i : Nat) : Bool := decide ((q ≤ i / 4 / a ∧ i / 4 / a < q + j ∧ p ≤ i / 4 % a ∧ i / 4 % a < p + w) ∨ (i / 4 / a = q + j ∧ p ≤ i / 4 % a ∧ 4 * (i / 4 % a) + i % 4 < 4 * p + k))
/-- is a pixel in a region -/
def atB (x y X Y W H : Int) : Bool := decide (X ≤ x ∧ Y ≤ y ∧ x ≤ X + W - 1 ∧ y ≤ Y + H - 1)
/-- the frame with another one laid over it -/
def overV (ys zs : List Nat) (X Y : Int) (a b : Nat) (X2 Y2 : Int) (a2 b2 : Nat) : List Nat :=
  mixL (4 * (a * b)) (fun i => atB (X + ((i / 4 % a : Nat) : Int)) (Y + ((i / 4 / a : Nat) : Int)) X2 Y2 a2 b2) (madeF (pixF zs X2 Y2 a2 b2) X Y a) ys
/-- a pixel pasted -/
def pasteF (xs zs : List Nat) (X Y : Int) (a b : Nat) (X2 Y2 : Int) (a2 b2 : Nat) (x y : Int) (c : Nat) : Nat := if atB x y X2 Y2 a2 b2 then pixF zs X2 Y2 a2 b2 x y c else pixF xs X Y a b x y c
/-- where two frames meet -/
structure Meets (X Y : Int) (a b : Nat) (X2 Y2 : Int) (a2 b2 : Nat) (p q p2 q2 w h : Nat) : Prop where
  x : X + p = X2 + p2
  y : Y + q = Y2 + q2
  w1 : 1 ≤ w
  h1 : 1 ≤ h
  pa : p + w ≤ a
  pa2 : p2 + w ≤ a2
  qb : q + h ≤ b
  qb2 : q2 + h ≤ b2
  mx : max X X2 = X + p
  my : max Y Y2 = Y + q
  mw : min (X + a) (X2 + a2) = X + p + w
  mh : min (Y + b) (Y2 + b2) = Y + q + h
theorem apart {X Y X2 Y2 : Int} {a b a2 b2 : Nat} (h : cmB X Y a b X2 Y2 a2 b2 = false) : min (X + a) (X2 + a2) - max X X2 < 1 ∨ min (Y + b) (Y2 + b2) - max Y Y2 < 1 := by
  unfold cmB at h
  rw [Bool.and_eq_false_iff, decide_eq_false_iff_not, decide_eq_false_iff_not] at h
  unfold cmw at h
  omega
end Go.Proofs.Ytapcgokcfmklbaa

namespace Go.Proofs.Ytapcgokcfmklbaa
open Go Go.Proofs Go.RowKit

def atE (x y X Y : Int) (a b : Nat) : Int := if atB x y X Y a b then 0 else 5
def atQ (xs : List Nat) (x y X Y : Int) (a b : Nat) (c : Nat) : Nat := if atB x y X Y a b then cl (pixF xs X Y a b x y c) else 0
/-- a pixel, cleaned as far as k -/
def ckL (q : Nat → Nat) (k : Nat) : List Value := [flt (if 0 < k then cl (q 0) else q 0), flt (if 1 < k then cl (q 1) else q 1), flt (if 2 < k then cl (q 2) else q 2), flt (if 3 < k then cl (q 3) else q 3)]
/-- a frame of one pixel: its numbers -/
def fillV (q : Nat → Nat) (N : Nat) : List Nat := (List.range N).map fun i => cl (q (i % 4))
def putF (xs : List Nat) (q : Nat → Nat) (o : Nat) (i : Nat) : Nat := if o ≤ i ∧ i < o + 4 then q (i - o) else xs.getD i 0
def putV (xs : List Nat) (q : Nat → Nat) (X Y : Int) (a b : Nat) (x y : Int) : List Nat := overV (xs.map cl) (fillV q 4) X Y a b x y 1 1
def cutE (rx ry rw_ rh X Y a b : Int) : Int := if regErr rx ry rw_ rh ≠ 0 then regErr rx ry rw_ rh else if insB rx ry rw_ rh X Y a b then 0 else 5
def cutV (xs : List Nat) (X Y : Int) (a b : Nat) (rx ry rw_ rh : Int) : List Nat := madeV (pixF xs X Y a b) rx ry rw_.toNat (4 * (rw_.toNat * rh.toNat))
def pstE (X Y a b X2 Y2 a2 b2 : Int) : Int := if cmB X Y a b X2 Y2 a2 b2 then 0 else 5
def pstV (xs zs : List Nat) (X Y : Int) (a b : Nat) (X2 Y2 : Int) (a2 b2 : Nat) : List Nat := madeV (pasteF xs zs X Y a b X2 Y2 a2 b2) X Y a (4 * (a * b))
/-- are two frames the same -/
def sameB (x y wi he x' y' wi' he' : Int) (xs xs' : List Nat) : Bool := decide ([x, y, wi, he] = [x', y', wi', he'] ∧ xs.map cl = xs'.map cl)

end Go.Proofs.Ytapcgokcfmklbaa

namespace Go.Proofs.Ytapcgokcfmklbaa
open Go Go.RowKit

theorem num_bd {b : Nat} {s : Bool} {m : Nat} {p : Int} (h : Ieee.single.read b = .number s m p) : m ≤ 16777215 ∧ p ≤ 104 ∧ -149 ≤ p := by
  have e2 : Ieee.single.binade = 8388608 := rfl
  have e3 : Ieee.single.infRung = 2139095040 := rfl
  have e4 : Ieee.single.leastPlace = -149 := rfl
  unfold Ieee.Format.read at h
  simp only [e2, e3, e4] at h
  split at h
  · cases h; omega
  · split at h
    · cases h; omega
    · split at h <;> cases h
/-- is it a number: no NaN and no infinity -/
def numB (b : Nat) : Bool := match Ieee.single.read b with
  | .number .. => true
  | _ => false
theorem numB_nan {b : Nat} (h : nan32 b = true) : numB b = false := by
  obtain ⟨s, f, e⟩ := read_nan h
  unfold numB; rw [e]
theorem nan_of_num {b : Nat} (h : numB b = true) : nan32 b = false := by
  cases e : nan32 b
  · rfl
  · rw [numB_nan e] at h; cases h
theorem feq_self (b : Nat) : fcmpB .eql b b = !nan32 b := by
  unfold fcmpB
  cases h : nan32 b
  · rw [order_self h]; rfl
  · rw [order_nan (.inl h)]; rfl
theorem read_max : Ieee.single.read 2139095039 = .number false 16777215 104 := by decide +kernel
theorem read_min : Ieee.single.read 4286578687 = .number true 16777215 104 := by decide +kernel
theorem signed_le {s : Bool} {m k : Nat} {M : Nat} (h : m ≤ M) : Ieee.signed s m 0 ≤ Ieee.signed false M k ∧ Ieee.signed true M k ≤ Ieee.signed s m 0 := by
  have h1 : m ≤ M <<< k := Nat.le_trans h (by rw [Nat.shiftLeft_eq]; exact Nat.le_mul_of_pos_right _ (Nat.two_pow_pos k))
  unfold Ieee.signed
  simp only [Nat.shiftLeft_zero]
  generalize M <<< k = z at *
  cases s <;> simp <;> omega
theorem inf_num {b : Nat} (h : numB b = true) : fcmpB .gtr b 2139095039 = false ∧ fcmpB .lss b 4286578687 = false := by
  unfold numB at h
  split at h
  · rename_i s m p e
    have hb := num_bd e
    unfold fcmpB Ieee.Format.order
    rw [e, read_max, read_min]
    simp only [Ieee.Datum.order]
    have e1 : min p 104 = p := by omega
    rw [e1]
    have e2 : (p - p).toNat = 0 := by omega
    rw [e2]
    have h1 := signed_le (s := s) (k := (104 - p).toNat) hb.1
    refine ⟨?_, ?_⟩
    · have : compare (Ieee.signed s m 0) (Ieee.signed false 16777215 (104 - p).toNat) ≠ .gt := fun hc => by rw [Int.compare_eq_gt] at hc; omega
      cases hc : compare (Ieee.signed s m 0) (Ieee.signed false 16777215 (104 - p).toNat) <;> simp_all
    · have : compare (Ieee.signed s m 0) (Ieee.signed true 16777215 (104 - p).toNat) ≠ .lt := fun hc => by rw [Int.compare_eq_lt] at hc; omega
      cases hc : compare (Ieee.signed s m 0) (Ieee.signed true 16777215 (104 - p).toNat) <;> simp_all
  · cases h
theorem inf_inf {b : Nat} (h : numB b = false) (hn : nan32 b = false) : (fcmpB .gtr b 2139095039 || fcmpB .lss b 4286578687) = true := by
  rcases read_num hn with ⟨s, m, p, e⟩ | ⟨s, e⟩
  · unfold numB at h; rw [e] at h; cases h
  · unfold fcmpB Ieee.Format.order
    rw [e, read_max, read_min]
    cases s <;> rfl
/-- v == v, and not above the greatest and not below the least -/
theorem isnum_1 (b : Nat) : (fcmpB .eql b b && !(fcmpB .gtr b 2139095039 || fcmpB .lss b 4286578687)) = numB b := by
  rw [feq_self]
  cases hn : nan32 b
  · cases h : numB b
    · rw [inf_inf h hn]; rfl
    · rw [(inf_num h).1, (inf_num h).2]; rfl
  · rw [numB_nan hn]; rfl
/-- a weighted sum -/
def lumaV (w q : Nat → Nat) : Nat := fo .add (fo .add (fo .mul (w 0) (q 0)) (fo .mul (w 1) (q 1))) (fo .mul (w 2) (q 2))
/-- all of a row are numbers -/
def numsB (l : List Nat) : Bool := l.all numB
theorem nums_T {l : List Nat} (h : ∀ i (hi : i < l.length), numB l[i] = true) : true = numsB l := by
  symm
  unfold numsB
  rw [List.all_eq_true]
  intro x hx
  obtain ⟨i, hi, rfl⟩ := List.getElem_of_mem hx
  exact h i hi
theorem nums_F {l : List Nat} {i : Nat} (hi : i < l.length) (h : numB l[i] = false) : false = numsB l := by
  symm
  unfold numsB
  rw [List.all_eq_false]
  exact ⟨l[i], List.getElem_mem hi, by rw [h]; decide⟩
end Go.Proofs.Ytapcgokcfmklbaa

namespace Go.Proofs.Ytapcgokcfmklbaa
open Go Go.RowKit

/-- the first error of n things -/
def firstE (f : Nat → Int) : Nat → Int
  | 0 => 0
  | n + 1 => if firstE f n ≠ 0 then firstE f n else f n
/-- what is wrong with bands: five numbers each -/
def bandE (xs : List Nat) (i : Nat) : Int := if numB (xs.getD (5 * i) 0) = false then 2 else if 0 < i ∧ fcmpB .gtr (xs.getD (5 * i) 0) (xs.getD (5 * (i - 1)) 0) = false then 8 else 0
def bandsE (xs : List Nat) (n : Nat) : Int := if n = 0 then 10 else if 32 < n then 4 else firstE (bandE xs) n
/-- the colour of a luma -/
def fourF (a b c d : Nat) : Nat → Nat
  | 0 => a
  | 1 => b
  | 2 => c
  | _ => d
def falseQ (xs : List Nat) (l a : Nat) : Nat → Nat → Nat
  | 0 => fourF l l l a
  | k + 1 => if fcmpB .leq (xs.getD (5 * k) 0) l then fun c => xs.getD (5 * k + 1 + c) 0 else falseQ xs l a k
/-- stripes -/
def zebQ (x y wd : Int) (lv : Nat) (l : Nat) (q : Nat → Nat) : Nat → Nat := if fcmpB .geq l lv then (if (x + y) / wd % 2 = 0 then fourF 1065353216 1065353216 1065353216 (q 3) else fourF 0 0 0 (q 3)) else q
/-- an integer as a float -/
def cvF (n : Int) : Nat := FloatKind.f32.nearest n
section
variable {P : Program} {W : World} {H : HL} {e : Env} {x : Operand} {t t' ty : TypeId}
theorem QO.conv_i64_f32 {n : Int} (hu : P.underlying t = some (.int .i64)) (hu' : P.underlying t' = some (.float .f32)) (hx : ev e x = .int .i64 n) : QO P W H e (.convert t t' x) ty (flt (cvF n)) := fun d pos af gd w _ => by
  simp only [execOp, hx, Sem.run_bind, Sem.run_pure]
  simp [convert, run_underlying hu, run_underlying hu', Conv.intToFloat, cvF]
end
/-- what is wrong with a call of False, of Zebra -/
def falE (ok : Bool) (e : Int) : Int := if ok = false then 2 else e
def falT (bs : List Nat) (u : Nat → Nat) (nb : Nat) (q : Nat → Nat) : Nat → Nat := falseQ bs (lumaV u q) (q 3) nb
def zebE (ok ok2 : Bool) (wd : Int) : Int := if ok = false ∨ ok2 = false then 2 else if wd < 1 ∨ 64 < wd then 3 else 0
end Go.Proofs.Ytapcgokcfmklbaa

namespace Go.Proofs.Ytapcgokcfmklbaa
open Go Go.Proofs Go.RowKit

theorem ok128 : callOK Try.prog 128 = true := by kernel_rfl
theorem ok151 : callOK Try.prog 151 = true := by kernel_rfl
theorem ok114 : callOK Try.prog 114 = true := by kernel_rfl
set_option maxRecDepth 100000 in
theorem infinite (v : Nat) (W : World) : Fn_ Try.prog 114 #[flt v] W (fun v_ H => v_ = .bool (fcmpB .gtr v 2139095039 || fcmpB .lss v 4286578687) ∧ H = []) := by
  refine Fn_.intro Try.func114 rfl rfl (by rfl) ?_
  refine CS.seq ?_
  refine CS.region ?_
  refine RS.q rfl (QO.assign) ?_
  refine RS.nil ?_
  refine thenC_n ?_
  refine CS.seq ?_
  refine CS.region ?_
  refine RS.q rfl (QO.move) ?_
  refine RS.q rfl (QO.fcmp32 (by rfl) (by rfl) (by simp)) ?_
  refine RS.q rfl (QO.move) ?_
  refine RS.split (dj := 5) (by rfl) (fun hb0 => ?_) (fun hb0 => ?_)
  · refine RS.off (dj := 5) rfl (.inl (congrArg Value.bool hb0)) (fun _ => rfl) rfl ?_
    refine RS.off (dj := 5) rfl (.inl (congrArg Value.bool hb0)) (fun _ => rfl) rfl ?_
    refine RS.q rfl (QO.pickT (by rfl) hb0 (by rfl)) ?_
    refine RS.q rfl (QO.assign) ?_
    refine RS.nil ?_
    refine thenC_n ?_
    refine CS.ret ?_
    refine retQ.mk (H' := []) (.inr rfl) (RVs.tmp (by rfl) RVs.nil) (List.nil_sublist _) ?_
    exact ⟨congrArg Value.bool (by rw [hb0]; rfl), rfl⟩
  · refine RS.on (dj := 5) rfl (congrArg Value.bool hb0) ?_
    refine RS.q rfl (QO.move) ?_
    refine RS.on (dj := 5) rfl (congrArg Value.bool hb0) ?_
    refine RS.q rfl (QO.fcmp32 (by rfl) (by rfl) (by simp)) ?_
    refine RS.q rfl (QO.pickF (by rfl) hb0 (by rfl)) ?_
    refine RS.q rfl (QO.assign) ?_
    refine RS.nil ?_
    refine thenC_n ?_
    refine CS.ret ?_
    refine retQ.mk (H' := []) (.inr rfl) (RVs.tmp (by rfl) RVs.nil) (List.nil_sublist _) ?_
    exact ⟨congrArg Value.bool (by rw [hb0]; rfl), rfl⟩

set_option maxRecDepth 100000 in
theorem isNumber (v : Nat) (W : World) : Fn_ Try.prog 151 #[flt v] W (fun v_ H => v_ = .bool (numB v) ∧ H = []) := by
  refine Fn_.intro Try.func151 rfl rfl (by rfl) ?_
  refine CS.seq ?_
  refine CS.region ?_
  refine RS.q rfl (QO.assign) ?_
  refine RS.nil ?_
  refine thenC_n ?_
  refine CS.seq ?_
  refine CS.region ?_
  refine RS.q rfl (QO.move) ?_
  refine RS.q rfl (QO.move) ?_
  refine RS.q rfl (QO.fcmp32 (by rfl) (by rfl) (by simp)) ?_
  refine RS.q rfl (QO.move) ?_
  refine RS.split (dj := 6) (by rfl) (fun hb0 => ?_) (fun hb0 => ?_)
  · refine RS.on (dj := 6) rfl (congrArg Value.bool hb0) ?_
    refine RS.q rfl (QO.move) ?_
    refine RS.on (dj := 6) rfl (congrArg Value.bool hb0) ?_
    refine RS.call rfl (by rfl) ok114 (by rfl) (fun w ho => infinite _ _) ?_
    rintro _ _ ⟨rfl, rfl⟩
    refine RS.on (dj := 6) rfl (congrArg Value.bool hb0) ?_
    refine RS.q rfl (QO.not (by rfl)) ?_
    refine RS.q rfl (QO.pickT (by rfl) hb0 (by rfl)) ?_
    refine RS.q rfl (QO.assign) ?_
    refine RS.nil ?_
    refine thenC_n ?_
    refine CS.ret ?_
    refine retQ.mk (H' := []) (.inr rfl) (RVs.tmp (by rfl) RVs.nil) (List.nil_sublist _) ?_
    exact ⟨congrArg Value.bool (by rw [← isnum_1, hb0]; rfl), rfl⟩
  · refine RS.off (dj := 6) rfl (.inl (congrArg Value.bool hb0)) (fun _ => rfl) rfl ?_
    refine RS.off (dj := 6) rfl (.inl (congrArg Value.bool hb0)) (fun _ => rfl) rfl ?_
    refine RS.off (dj := 6) rfl (.inl (congrArg Value.bool hb0)) (fun _ => rfl) rfl ?_
    refine RS.q rfl (QO.pickF (by rfl) hb0 (by rfl)) ?_
    refine RS.q rfl (QO.assign) ?_
    refine RS.nil ?_
    refine thenC_n ?_
    refine CS.ret ?_
    refine retQ.mk (H' := []) (.inr rfl) (RVs.tmp (by rfl) RVs.nil) (List.nil_sublist _) ?_
    exact ⟨congrArg Value.bool (by rw [← isnum_1, hb0]; rfl), rfl⟩

set_option maxRecDepth 100000 in
theorem allNumbers (A : Option Addr) (n c : Nat) (xs : List Nat) (W : World) (hn : xs.length = n) (hA : FS W A xs) (hm : n ≤ maxLen) : Fn_ Try.prog 128 #[.slice A n c] W (fun v H => v = .bool (numsB xs) ∧ H = []) := by
  subst hn
  unfold maxLen at hm
  refine Fn_.intro Try.func128 rfl rfl (by rfl) ?_
  refine CS.seq ?_
  refine CS.region ?_
  refine RS.q rfl (QO.assign) ?_
  refine RS.nil ?_
  refine thenC_n ?_
  refine CS.seq ?_
  refine CS.seq ?_
  refine CS.region ?_
  refine RS.q rfl (QO.move) ?_
  refine RS.q rfl (QO.lenS Try.underlying24 (by rfl)) ?_
  refine RS.q rfl (QO.move) ?_
  refine RS.nil ?_
  refine thenC_n ?_
  refine CS.block ?_
  refine CS.loop (X := Nat) [2, 4, 7, 8, 9, 10, 11, 12, 13, 14] (fun k => [(7, iv (k : Int))]) (fun k => []) (fun k => k ≤ xs.length ∧ ∀ i (hi : i < xs.length), i < k → numB xs[i] = true) (fun k => xs.length - k) 0 ⟨Nat.zero_le _, fun i hi h => absurd h (Nat.not_lt_zero _)⟩ ?_ ?_ ?_
  · exact (by repeat (first | exact kn_nil | refine kn_cons (by rfl) ?_))
  · exact (by repeat (first | exact List.Sublist.refl _ | exact List.nil_sublist _ | refine List.Sublist.cons_cons _ ?_ | refine List.Sublist.cons _ ?_ | exact Sbp.refl | exact Sbp.nil | refine Sbp.cons (by repeat (first | exact Rem.head | apply Rem.tail)) ?_ | exact Sbp.app | refine Sbp.skip ?_))
  · intro k gj2 hz
    obtain ⟨hk, hz⟩ := hz
    refine CS.seq ?_
    refine CS.region ?_
    refine RS.q rfl (QO.lss (by rfl) (by rfl)) ?_
    refine RS.nil ?_
    refine thenC_n ?_
    refine CS.seq ?_
    refine CS.cond (by rfl) (fun hb0 => ?_) (fun hb0 => ?_)
    · have hb0p := of_decide_eq_true hb0
      refine CS.skip ?_
      refine thenC_n ?_
      refine CS.seq ?_
      refine CS.block ?_
      refine CS.seq ?_
      refine CS.region ?_
      have hlt : k < xs.length := by omega
      obtain ⟨bA, oA, rfl, hcell⟩ := hA (by omega)
      first | (refine RS.q rfl (QO.idx0 Try.underlying24 ty29 (by rfl) (by rfl) (by rfl) (by omega)) ?_) | (refine RS.q rfl (QO.idxn Try.underlying24 ty29 (by rfl) (by rfl) (by rfl) (by omega)) ?_) | (refine RS.q rfl (QO.idx1 Try.underlying24 ty29 (by rfl) (by rfl) (by omega) (by omega)) ?_)
      refine RS.q rfl (QO.loadO ty29 (by rfl) (hcell _ _ (List.getElem?_eq_getElem hlt))) ?_
      refine RS.q rfl (QO.assign) ?_
      refine RS.nil ?_
      refine thenC_n ?_
      refine CS.seq ?_
      refine CS.region ?_
      refine RS.q rfl (QO.move) ?_
      refine RS.call rfl (by rfl) ok151 (by rfl) (fun w ho => isNumber _ _) ?_
      rintro _ _ ⟨rfl, rfl⟩
      refine RS.q rfl (QO.not (by rfl)) ?_
      refine RS.nil ?_
      refine thenC_n ?_
      refine CS.cond (by rfl) (fun hb1 => ?_) (fun hb1 => ?_)
      · have hb1p := Eq.mp (Bool.not_eq_true' _) hb1
        refine CS.seq ?_
        refine CS.region ?_
        refine RS.q rfl (QO.assign) ?_
        refine RS.nil ?_
        refine thenC_n ?_
        refine CS.ret ?_
        refine blockC_r ?_
        refine thenC_r ?_
        refine loopQ_r ?_
        refine blockC_r ?_
        refine thenC_r ?_
        refine retQ.mk (H' := []) (.inr rfl) (RVs.tmp (by rfl) RVs.nil) (List.nil_sublist _) ?_
        exact ⟨congrArg Value.bool (nums_F hlt hb1p), rfl⟩
      · have hb1p := Eq.mp (Bool.not_eq_false' _) hb1
        refine CS.skip ?_
        refine blockC_n ?_
        refine thenC_n ?_
        refine CS.region ?_
        first | (refine RS.q rfl (QO.add (by rfl) (by rfl) (by omega) (by omega)) ?_) | (refine RS.q rfl (QO.ibin (by rfl) (by rfl) trivial) ?_)
        refine RS.q rfl (QO.move) ?_
        refine RS.nil ?_
        refine loopQ_n (by intro t ht; repeat (first | with_reducible exact rfl | exact frame_puts ht (frame_mix ht) _ rfl | (refine frame_put rfl ht ?_) | (refine frame_puts ht ?_ _ rfl) | exact frame_mix ht | (refine frame_mix2 rfl ht ?_) | exact rfl)) ?_
        exact ⟨k + 1, ⟨by omega, fun i hi h => by
            by_cases e : i = k
            · subst e; exact hb1p
            · exact hz i hi (by omega)⟩, by omega, (by repeat (first | exact kn_nil | refine kn_cons (by rfl) ?_)), (by repeat (first | exact List.Sublist.refl _ | exact List.nil_sublist _ | refine List.Sublist.cons_cons _ ?_ | refine List.Sublist.cons _ ?_ | exact Sbp.refl | exact Sbp.nil | refine Sbp.cons (by repeat (first | exact Rem.head | apply Rem.tail)) ?_ | exact Sbp.app | refine Sbp.skip ?_))⟩
    · have hb0p := of_decide_eq_false hb0
      refine CS.exit ?_
      refine thenC_x ?_
      refine loopQ_x ?_
      refine blockC_x ?_
      refine thenC_n ?_
      refine CS.seq ?_
      refine CS.region ?_
      refine RS.q rfl (QO.assign) ?_
      refine RS.nil ?_
      refine thenC_n ?_
      refine CS.ret ?_
      refine retQ.mk (H' := []) (.inr rfl) (RVs.tmp (by rfl) RVs.nil) (List.nil_sublist _) ?_
      exact ⟨congrArg Value.bool (nums_T fun i hi => hz i hi (by omega)), rfl⟩

end Go.Proofs.Ytapcgokcfmklbaa

namespace Go.Proofs.Ytapcgokcfmklbaa
open Go Go.ChangeShapes Go.WideShapes Go.RowKit

section
variable {H : Type} {enc : TypeId × Value → H} {P : Program} {w : World} {base : Nat} {spare : Nat → Bool} {held : Bool}
theorem All2.get {α β : Type} {R : α → β → Prop} : ∀ {a : List α} {b : List β} (_ : All2 R a b) (i : Nat) (x : α) (y : β), a[i]? = some x → b[i]? = some y → R x y
  | [], [], _, i, x, y, h, _ => by simp at h
  | a :: l, b :: m, h, 0, x, y, h1, h2 => by
    simp at h1 h2
    subst h1 h2
    exact h.1
  | a :: l, b :: m, h, i + 1, x, y, h1, h2 => All2.get h.2 i x y (by simpa using h1) (by simpa using h2)
/-- A slice whose elements are rows of leaves. -/
theorem Leaf.sliceN {l e : TypeId} {c : Value} {ls : List TypeId} {d : Nat} (ht : P.underlying l = some (.slice e)) (hl : leaves P d e = some ls) (hc : P.cellsOf e = ls.length) (h : Leaf enc P w base spare held l c) :
    ∃ (A : Option Addr) (n cap : Nat) (C : Nat → List Value), c = .slice A n cap ∧ n ≤ cap ∧ cap ≤ maxLen ∧ ∀ i, i < n → ∃ a, A = some a ∧ All2 (Leaf enc P w base spare held) ls (C i) ∧ ∀ j v, (C i)[j]? = some v → w.cell? (a.add (i * ls.length + j)) = some v := by
  obtain ⟨fuel, x, hx⟩ := h
  rcases Go.Deep.open_slice ht hx with ⟨h1, _⟩ | ⟨a, len, cap, m, n, D, Pl, h1, _, h2, h3, h4, _, h5⟩
  · exact ⟨none, 0, 0, fun _ => [], by simpa using h1, Nat.le_refl _, by simp, fun i hi => by omega⟩
  · obtain ⟨C, hC⟩ := Go.Deep.choose_lt (α := List Value) (n := len) (p := fun i cs => w.cells? base (a.add (i * P.cellsOf e)) (P.cellsOf e) = some cs ∧ DataW.trod enc P w base spare held n e cs = some (D i, Pl i)) (fun i hi => h5 i (by rw [h4]; split <;> omega))
    refine ⟨some a, len, cap, C, by simpa using h1, h2, h3, fun i hi => ⟨a, rfl, ?_, fun j v hj => ?_⟩⟩
    · exact leaves_trod d hl (hC i hi).2
    · obtain ⟨_, h6, h7⟩ := World.cells?_some (hC i hi).1
      have h8 : j < (C i).length := (List.getElem?_eq_some_iff.1 hj).1
      have h9 := h7 j (by omega)
      rw [hc] at h9
      rw [Addr.add_add] at h9
      rw [h9, hj]
end
end Go.Proofs.Ytapcgokcfmklbaa

namespace Go.Proofs.Ytapcgokcfmklbaa
open Go Go.RowKit

/-- the value of a number, in units of the least one -/
def fval (b : Nat) : Int := match Ieee.single.read b with
  | .number s m p => Ieee.signed s m (p + 149).toNat
  | _ => 0
theorem signed_shift (s : Bool) (m a k : Nat) : Ieee.signed s m (a + k) = Ieee.signed s m a * 2 ^ k := by
  unfold Ieee.signed
  have h : ((m <<< (a + k) : Nat) : Int) = ((m <<< a : Nat) : Int) * 2 ^ k := by
    rw [Nat.shiftLeft_eq, Nat.shiftLeft_eq, Nat.pow_add, ← Nat.mul_assoc]
    push_cast; rfl
  cases s
  · simpa using h
  · simp only [if_true]
    rw [h, Int.neg_mul]
theorem cmp_self (x : Int) : compare x x = .eq := Int.compare_eq_eq.2 rfl
theorem compare_scale (x y : Int) (k : Nat) : compare (x * 2 ^ k) (y * 2 ^ k) = compare x y := by
  have hk : (0 : Int) < 2 ^ k := Int.pow_pos (by decide)
  rcases Int.lt_trichotomy x y with h | h | h
  · rw [Int.compare_eq_lt.2 h, Int.compare_eq_lt.2 (Int.mul_lt_mul_of_pos_right h hk)]
  · subst h; rw [cmp_self, cmp_self]
  · rw [Int.compare_eq_gt.2 h, Int.compare_eq_gt.2 (Int.mul_lt_mul_of_pos_right h hk)]
theorem order_fval {a b : Nat} (ha : numB a = true) (hb : numB b = true) : Ieee.single.order a b = some (compare (fval a) (fval b)) := by
  unfold numB at ha hb
  split at ha
  · rename_i s m p ea
    split at hb
    · rename_i t n q eb
      have h1 := num_bd ea
      have h2 := num_bd eb
      unfold Ieee.Format.order fval
      rw [ea, eb]
      simp only [Ieee.Datum.order]
      have e1 : (p + 149).toNat = (p - min p q).toNat + (min p q + 149).toNat := by omega
      have e2 : (q + 149).toNat = (q - min p q).toNat + (min p q + 149).toNat := by omega
      rw [e1, e2, signed_shift, signed_shift, compare_scale]
    · cases hb
  · cases ha
/-- the share k/1024 -/
def qk (k : Nat) : Nat := (fop .quo (cvF (k : Int)) 1149239296).getD 0
/-! ### greatest and least of a list -/
/-- the first of the greatest (least) of a row -/
def bestG (op : BinOp) (l : List Nat) : Nat := l.foldl (fun b v => if fcmpB op v b then v else b) (l.getD 0 0)
def maxK (l : List Nat) : Nat := l.foldl max (l.getD 0 0)
def minK (l : List Nat) : Nat := l.foldl min (l.getD 0 0)
/-! ### squares -/
/-- the numbers of the square behind place i of a smaller matte (W' wide) of one that is W wide -/
def sqL (g : Nat → Nat) (side W W' i : Nat) (n : Nat) : List Nat := (List.range n).map fun t => g ((i / W' + t / side) * W + i % W' + t % side)
/-- a matte of numbers: f of column and row -/
def matV (f : Nat → Nat → Nat) (W N : Nat) : List Nat := (List.range N).map fun i => qk (f (i % W) (i / W))
/-- the values of a square -/
def sqF (f : Nat → Nat → Nat) (side x y : Nat) : List Nat := (List.range (side * side)).map fun t => f (x + t % side) (y + t / side)
def mxS (side : Nat) (f : Nat → Nat → Nat) (x y : Nat) : Nat := maxK (sqF f side x y)
def mnS (side : Nat) (f : Nat → Nat → Nat) (x y : Nat) : Nat := minK (sqF f side x y)
/-- gathered from the squares -/
def aroV (G : List Nat → Nat) (xs : List Nat) (side W W' N : Nat) : List Nat := (List.range N).map fun i => cl (G (sqL (fun k => xs.getD k 0) side W W' i (side * side)))
end Go.Proofs.Ytapcgokcfmklbaa

namespace Go.Proofs.Ytapcgokcfmklbaa
open Go Go.RowKit

/-- n / 2^a to the nearest, ties to even -/
def rnd (n a : Nat) : Nat := n / 2 ^ a + (if 2 ^ a < 2 * (n % 2 ^ a) ∨ (2 ^ a = 2 * (n % 2 ^ a) ∧ n / 2 ^ a % 2 = 1) then 1 else 0)
theorem cut_even (neg : Bool) (n a : Nat) : Ieee.Toward.even.cut neg n a = rnd n a := by
  unfold Ieee.Toward.cut rnd
  simp only [Nat.one_shiftLeft]
  have hl : n < 2 ^ (n.log2 + 1) := Nat.lt_log2_self
  by_cases h : a ≤ n.log2 + 2
  · rw [Nat.min_eq_left h]
    congr 1
    by_cases h1 : 2 ^ a < 2 * (n % 2 ^ a)
    · simp [h1]
    · by_cases h2 : 2 ^ a = 2 * (n % 2 ^ a) ∧ n / 2 ^ a % 2 = 1
      · simp [h2.1.symm, h2.2]
      · have h3 : ¬ (2 ^ a < 2 * (n % 2 ^ a) ∨ (2 ^ a = 2 * (n % 2 ^ a) ∧ n / 2 ^ a % 2 = 1)) := by
          rintro (h | h)
          · exact h1 h
          · exact h2 h
        rw [if_neg h3]
        have h4 : (decide (2 ^ a < 2 * (n % 2 ^ a)) || (2 ^ a == 2 * (n % 2 ^ a) && n / 2 ^ a % 2 == 1)) = false := by
          rw [Bool.or_eq_false_iff, decide_eq_false h1]
          refine ⟨rfl, ?_⟩
          cases hc : (2 ^ a == 2 * (n % 2 ^ a) && n / 2 ^ a % 2 == 1)
          · rfl
          · rw [Bool.and_eq_true, beq_iff_eq, beq_iff_eq] at hc
            exact absurd hc h2
        rw [h4]; rfl
  · rw [Nat.min_eq_right (by omega)]
    have e1 : 2 ^ (n.log2 + 2) = 2 * 2 ^ (n.log2 + 1) := by rw [Nat.pow_succ, Nat.mul_comm]
    have h1 : n < 2 ^ (n.log2 + 2) := by omega
    have h2 : 2 ^ (n.log2 + 2) < 2 ^ a := Nat.pow_lt_pow_right (by decide) (by omega)
    have h3 : n < 2 ^ a := by omega
    rw [Nat.div_eq_of_lt h1, Nat.mod_eq_of_lt h1, Nat.div_eq_of_lt h3, Nat.mod_eq_of_lt h3]
    have h4 : ¬ (2 ^ (n.log2 + 2) < 2 * n) := by omega
    have h5 : ¬ (2 ^ a < 2 * n ∨ (2 ^ a = 2 * n ∧ 0 % 2 = 1)) := by omega
    rw [if_neg h5]
    simp [h4]
theorem rnd_zero (n : Nat) : rnd n 0 = n := by
  unfold rnd
  rw [Nat.pow_zero, Nat.div_one, Nat.mod_one, if_neg (by omega)]; rfl
theorem rnd_up (m a t : Nat) : rnd (m * 2 ^ t) (a + t) = rnd m a := by
  unfold rnd
  have ht : 0 < 2 ^ t := Nat.two_pow_pos t
  have e1 : m * 2 ^ t / 2 ^ (a + t) = m / 2 ^ a := by rw [Nat.pow_add, Nat.mul_div_mul_right _ _ ht]
  have e2 : m * 2 ^ t % 2 ^ (a + t) = (m % 2 ^ a) * 2 ^ t := by rw [Nat.pow_add, Nat.mul_mod_mul_right]
  rw [e1, e2, Nat.pow_add]
  have h1 : 2 ^ a * 2 ^ t < 2 * (m % 2 ^ a * 2 ^ t) ↔ 2 ^ a < 2 * (m % 2 ^ a) := by
    rw [← Nat.mul_assoc]; exact Nat.mul_lt_mul_right ht
  have h2 : 2 ^ a * 2 ^ t = 2 * (m % 2 ^ a * 2 ^ t) ↔ 2 ^ a = 2 * (m % 2 ^ a) := by
    rw [← Nat.mul_assoc]; exact Nat.mul_right_cancel_iff ht ..
  simp only [h1, h2]
theorem rnd_exact (m a : Nat) : rnd (m * 2 ^ a) a = m := by
  have := rnd_up m 0 a
  rw [Nat.zero_add, rnd_zero] at this; exact this
/-- rounding in two steps -/
theorem rnd_rnd {n a G : Nat} (hG : 1 ≤ G) (h : rnd n a % 2 ^ G = 2 ^ (G - 1) → n % 2 ^ a = 0) : rnd (rnd n a) G = rnd n (a + G) := by
  have hA : 0 < 2 ^ a := Nat.two_pow_pos a
  have hg : 0 < 2 ^ G := Nat.two_pow_pos G
  have hg1 : 2 ^ G = 2 * 2 ^ (G - 1) := by rw [← Nat.pow_succ']; congr 1; omega
  by_cases hs : n % 2 ^ a = 0
  · have hn : n = n / 2 ^ a * 2 ^ a := by have := Nat.div_add_mod n (2 ^ a); rw [hs, Nat.add_zero, Nat.mul_comm] at this; exact this.symm
    have hk : rnd n a = n / 2 ^ a := by
      unfold rnd; rw [hs, if_neg (by omega)]; rfl
    rw [hk]
    conv => rhs; rw [hn, Nat.add_comm]
    exact (rnd_up _ _ _).symm
  · have hs' : 0 < n % 2 ^ a := Nat.pos_of_ne_zero hs
    have hsl : n % 2 ^ a < 2 ^ a := Nat.mod_lt _ hA
    have hdm := Nat.div_add_mod n (2 ^ a)
    obtain ⟨N, hN⟩ : ∃ N, n / 2 ^ a = N := ⟨_, rfl⟩
    obtain ⟨s, hsv⟩ : ∃ s, n % 2 ^ a = s := ⟨_, rfl⟩
    rw [hN, hsv] at hdm
    rw [hsv] at hs hs' hsl h
    have hdm2 := Nat.div_add_mod N (2 ^ G)
    have htl : N % 2 ^ G < 2 ^ G := Nat.mod_lt _ hg
    obtain ⟨q, hq⟩ : ∃ q, N / 2 ^ G = q := ⟨_, rfl⟩
    obtain ⟨t, ht⟩ : ∃ t, N % 2 ^ G = t := ⟨_, rfl⟩
    rw [hq, ht] at hdm2
    rw [ht] at htl
    -- the right side
    have e1 : n / 2 ^ (a + G) = q := by rw [Nat.pow_add, ← Nat.div_div_eq_div_mul, hN, hq]
    have e2 : n % 2 ^ (a + G) = t * 2 ^ a + s := by
      have h1 := Nat.div_add_mod n (2 ^ (a + G))
      rw [e1] at h1
      have h2 : 2 ^ (a + G) * q = 2 ^ a * (2 ^ G * q) := by rw [Nat.pow_add, Nat.mul_assoc]
      have h3 : 2 ^ a * N = 2 ^ a * (2 ^ G * q) + t * 2 ^ a := by rw [← hdm2, Nat.mul_add, Nat.mul_comm t]
      omega
    have e3 : 2 ^ (a + G) = 2 * (2 ^ (G - 1) * 2 ^ a) := by rw [Nat.pow_add, hg1]; rw [Nat.mul_comm, Nat.mul_assoc]
    have hR : rnd n (a + G) = q + (if 2 ^ (G - 1) ≤ t then 1 else 0) := by
      unfold rnd
      rw [e1, e2, e3]
      congr 1
      by_cases hc : 2 ^ (G - 1) ≤ t
      · rw [if_pos hc, if_pos]
        left
        have := Nat.mul_le_mul_right (2 ^ a) hc
        omega
      · rw [if_neg hc, if_neg]
        have h4 := Nat.mul_le_mul_right (2 ^ a) (show t + 1 ≤ 2 ^ (G - 1) by omega)
        rw [Nat.add_mul, Nat.one_mul] at h4
        omega
    rw [hR]
    have hK : rnd n a = N ∨ rnd n a = N + 1 := by
      unfold rnd; rw [hN]; split
      · exact .inr rfl
      · exact .inl rfl
    rcases hK with hK | hK
    · rw [hK] at h ⊢
      have hne : t ≠ 2 ^ (G - 1) := fun hh => hs (h (by rw [ht, hh]))
      unfold rnd
      rw [hq, ht, hg1]
      congr 1
      by_cases hc : 2 ^ (G - 1) ≤ t
      · rw [if_pos hc, if_pos (by omega)]
      · rw [if_neg hc, if_neg (by omega)]
    · rw [hK] at h ⊢
      by_cases hlast : t + 1 = 2 ^ G
      · have h5 : N + 1 = (q + 1) * 2 ^ G := by rw [Nat.add_mul, Nat.one_mul, Nat.mul_comm q]; omega
        rw [h5, rnd_exact, if_pos (by omega)]
      · have h6 : (N + 1) / 2 ^ G = q ∧ (N + 1) % 2 ^ G = t + 1 := by
          have h7 : N + 1 = 2 ^ G * q + (t + 1) := by omega
          rw [h7, Nat.mul_add_div hg, Nat.mul_add_mod, Nat.div_eq_of_lt (by omega), Nat.mod_eq_of_lt (by omega)]
          exact ⟨by omega, rfl⟩
        have hne : t + 1 ≠ 2 ^ (G - 1) := fun hh => hs (h (by rw [h6.2, hh]))
        unfold rnd
        rw [h6.1, h6.2, hg1]
        congr 1
        by_cases hc : 2 ^ (G - 1) ≤ t
        · rw [if_pos hc, if_pos (by omega)]
        · rw [if_neg hc, if_neg (by omega)]
theorem log2_up {m t : Nat} (h : m ≠ 0) : (m * 2 ^ t).log2 = m.log2 + t := by
  have h2 : m * 2 ^ t ≠ 0 := Nat.mul_ne_zero h (Nat.ne_of_gt (Nat.two_pow_pos t))
  apply Nat.le_antisymm
  · have h3 : m < 2 ^ (m.log2 + 1) := Nat.lt_log2_self
    have h4 : m * 2 ^ t < 2 ^ (m.log2 + t + 1) := by
      have := Nat.mul_lt_mul_of_pos_right h3 (Nat.two_pow_pos t)
      rw [← Nat.pow_add] at this
      rw [show m.log2 + t + 1 = m.log2 + 1 + t by omega]; exact this
    exact Nat.le_of_lt_succ ((Nat.log2_lt h2).2 h4)
  · rw [Nat.le_log2 h2, Nat.pow_add]
    exact Nat.mul_le_mul_right _ (Nat.log2_self_le h)
/-- what 'nearest' does, in the words of rnd -/
theorem nearest_rnd (f : Ieee.Format) (neg : Bool) {m : Nat} {p L : Int} (h : m ≠ 0) (hL : max (p + m.log2 - f.fractionBits) f.leastPlace = L) :
    f.nearest neg m p = f.word neg (min ((L - f.leastPlace).toNat * f.binade + rnd (m * 2 ^ (p - L).toNat) (L - p).toNat) f.infRung) := by
  unfold Ieee.Format.nearest
  rw [if_neg h]
  simp only [hL, cut_even, Nat.shiftLeft_eq]
/-- only the value counts -/
theorem nearest_up (f : Ieee.Format) (neg : Bool) {m t : Nat} {p : Int} (h : m ≠ 0) : f.nearest neg (m * 2 ^ t) p = f.nearest neg m (p + t) := by
  have h2 : m * 2 ^ t ≠ 0 := Nat.mul_ne_zero h (Nat.ne_of_gt (Nat.two_pow_pos t))
  obtain ⟨L, hL⟩ : ∃ L, max (p + t + m.log2 - f.fractionBits) f.leastPlace = L := ⟨_, rfl⟩
  rw [nearest_rnd f neg h hL, nearest_rnd f neg h2 (L := L) (by rw [log2_up h, ← hL]; congr 1; omega)]
  congr 3
  by_cases h3 : L ≤ p
  · have e1 : (L - p).toNat = 0 := by omega
    have e2 : (L - (p + t)).toNat = 0 := by omega
    rw [e1, e2, rnd_zero, rnd_zero, Nat.mul_assoc, ← Nat.pow_add]
    congr 2; omega
  · by_cases h4 : L ≤ p + t
    · have e1 : (p - L).toNat = 0 := by omega
      have e2 : (L - (p + t)).toNat = 0 := by omega
      have e3 : t = (p + t - L).toNat + (L - p).toNat := by omega
      rw [e1, e2, rnd_zero, Nat.pow_zero, Nat.mul_one]
      conv => lhs; rw [e3, Nat.pow_add, ← Nat.mul_assoc]
      rw [rnd_exact]
    · have e1 : (p - L).toNat = 0 := by omega
      have e2 : (p + t - L).toNat = 0 := by omega
      have e3 : (L - p).toNat = (L - (p + t)).toNat + t := by omega
      rw [e1, e2, Nat.pow_zero, Nat.mul_one, Nat.mul_one, e3, rnd_up]
theorem rnd_bd {m k : Nat} (h : m ≠ 0) (hk : k ≤ m.log2) : 2 ^ (m.log2 - k) ≤ rnd m k ∧ rnd m k ≤ 2 ^ (m.log2 - k + 1) := by
  have h1 := Nat.log2_self_le h
  have h2 : m < 2 ^ (m.log2 + 1) := Nat.lt_log2_self
  have hp := Nat.two_pow_pos k
  have e1 : 2 ^ m.log2 = 2 ^ (m.log2 - k) * 2 ^ k := by rw [← Nat.pow_add]; congr 1; omega
  have e2 : 2 ^ (m.log2 + 1) = 2 ^ (m.log2 - k + 1) * 2 ^ k := by rw [← Nat.pow_add]; congr 1; omega
  have h3 : 2 ^ (m.log2 - k) ≤ m / 2 ^ k := by rw [Nat.le_div_iff_mul_le hp, ← e1]; exact h1
  have h4 : m / 2 ^ k < 2 ^ (m.log2 - k + 1) := by rw [Nat.div_lt_iff_lt_mul hp, ← e2]; exact h2
  unfold rnd
  split <;> omega
/-- Rounded to 64 bits and then to 32 bits: as rounded at once. -/
theorem dbl_round (neg : Bool) {m : Nat} {p : Int} (h : m ≠ 0) (hlo : -1022 ≤ p + m.log2) (hhi : p + m.log2 ≤ 1000)
    (H : 52 < m.log2 → ∀ G : Nat, (G : Int) = max (p + m.log2 - 23) (-149) - (p + m.log2 - 52) → rnd m (m.log2 - 52) % 2 ^ G = 2 ^ (G - 1) → m % 2 ^ (m.log2 - 52) = 0) :
    ∃ m' p', Ieee.double.read (Ieee.double.nearest neg m p) = .number neg m' p' ∧ m' ≠ 0 ∧ Ieee.single.nearest neg m' p' = Ieee.single.nearest neg m p := by
  obtain ⟨E, hE⟩ : ∃ E, p + m.log2 = E := ⟨_, rfl⟩
  have f1 : Ieee.double.fractionBits = 52 := rfl
  have f2 : Ieee.double.leastPlace = -1074 := by decide
  have f3 : Ieee.double.binade = 4503599627370496 := by decide
  have f4 : Ieee.double.infRung = 9218868437227405312 := by decide
  have f5 : Ieee.double.signWeight = 9223372036854775808 := by decide
  have g1 : Ieee.single.fractionBits = 23 := rfl
  have g2 : Ieee.single.leastPlace = -149 := by decide
  have g3 : Ieee.single.binade = 8388608 := by decide
  have hD : max (p + m.log2 - Ieee.double.fractionBits) Ieee.double.leastPlace = E - 52 := by rw [f1, f2, hE]; omega
  obtain ⟨K, hK⟩ : ∃ K, rnd (m * 2 ^ (p - (E - 52)).toNat) (E - 52 - p).toNat = K := ⟨_, rfl⟩
  have hKb : 2 ^ 52 ≤ K ∧ K ≤ 2 ^ 53 := by
    by_cases hc : m.log2 ≤ 52
    · have e1 : (E - 52 - p).toNat = 0 := by omega
      have h2 : m * 2 ^ (p - (E - 52)).toNat ≠ 0 := Nat.mul_ne_zero h (Nat.ne_of_gt (Nat.two_pow_pos _))
      have h3 := log2_up (t := (p - (E - 52)).toNat) h
      have h4 : (m * 2 ^ (p - (E - 52)).toNat).log2 = 52 := by omega
      have h5 := rnd_bd (k := 0) h2 (Nat.zero_le _)
      rw [h4] at h5
      rw [e1] at hK
      rw [hK] at h5
      exact h5
    · have e1 : (p - (E - 52)).toNat = 0 := by omega
      have e2 : (E - 52 - p).toNat = m.log2 - 52 := by omega
      rw [e1, e2, Nat.pow_zero, Nat.mul_one] at hK
      have h5 := rnd_bd (k := m.log2 - 52) h (by omega)
      rw [hK, show m.log2 - (m.log2 - 52) = 52 by omega] at h5
      exact h5
  have hnear := nearest_rnd Ieee.double neg h hD
  rw [hK, f2, f3, f4] at hnear
  have hr : (E - 52 - -1074).toNat * 4503599627370496 + K < 9218868437227405312 := by omega
  rw [Nat.min_eq_left (by omega)] at hnear
  -- it is read as K at E - 52
  have hread : ∃ m' p', Ieee.double.read (Ieee.double.nearest neg m p) = .number neg m' p' ∧ m' ≠ 0 ∧ (m' = K ∧ p' = E - 52 ∨ K = 2 ^ 53 ∧ m' = 2 ^ 52 ∧ p' = E - 51) := by
    rw [hnear]
    obtain ⟨R, hR⟩ : ∃ R, (E - 52 - -1074).toNat * 4503599627370496 + K = R := ⟨_, rfl⟩
    rw [hR] at hr ⊢
    have hw1 : (Ieee.double.word neg R / 9223372036854775808 % 2 == 1) = neg := by
      unfold Ieee.Format.word
      rw [f5]
      cases neg
      · simp only [Bool.false_eq_true, if_false]
        rw [Nat.div_eq_of_lt (by omega)]; rfl
      · simp only [if_true]
        rw [show (9223372036854775808 + R) / 9223372036854775808 = 1 by omega]; rfl
    have hw2 : Ieee.double.word neg R % 9223372036854775808 = R := by
      unfold Ieee.Format.word
      rw [f5]
      cases neg
      · simp only [Bool.false_eq_true, if_false]; omega
      · simp only [if_true]; omega
    unfold Ieee.Format.read
    simp only [f2, f3, f4, f5]
    rw [hw1, hw2]
    obtain ⟨u, hu⟩ : ∃ u : Nat, (E - 52 - -1074).toNat = u := ⟨_, rfl⟩
    rw [hu] at hR
    have hEu : (u : Int) = E - 52 + 1074 := by omega
    rw [if_neg (show ¬ R < 4503599627370496 by omega), if_pos (by omega)]
    by_cases hc : K = 2 ^ 53
    · refine ⟨_, _, rfl, by omega, .inr ⟨hc, by omega, by omega⟩⟩
    · have : K < 2 ^ 53 := by omega
      refine ⟨_, _, rfl, by omega, .inl ⟨by omega, by omega⟩⟩
  obtain ⟨m', p', h1, h2, h3⟩ := hread
  refine ⟨m', p', h1, h2, ?_⟩
  have hK0 : K ≠ 0 := by omega
  have h4 : Ieee.single.nearest neg m' p' = Ieee.single.nearest neg K (E - 52) := by
    rcases h3 with ⟨rfl, rfl⟩ | ⟨e1, rfl, rfl⟩
    · rfl
    · have := nearest_up Ieee.single neg (m := 2 ^ 52) (t := 1) (p := E - 52) (by decide)
      rw [e1, show (2 : Nat) ^ 53 = 2 ^ 52 * 2 ^ 1 by decide, this]
      congr 1; omega
  rw [h4]
  by_cases hc : m.log2 ≤ 52
  · have e1 : (E - 52 - p).toNat = 0 := by omega
    rw [e1, rnd_zero] at hK
    rw [← hK, nearest_up Ieee.single neg h]
    congr 1; omega
  · have e1 : (p - (E - 52)).toNat = 0 := by omega
    have e2 : (E - 52 - p).toNat = m.log2 - 52 := by omega
    rw [e1, e2, Nat.pow_zero, Nat.mul_one] at hK
    obtain ⟨L, hL⟩ : ∃ L : Int, max (E - 23) (-149) = L := ⟨_, rfl⟩
    obtain ⟨G, hG⟩ : ∃ G : Nat, (G : Int) = L - (E - 52) := ⟨(L - (E - 52)).toNat, by omega⟩
    have hG29 : 29 ≤ G := by omega
    have hH := H (by omega) G (by rw [hE, hL]; omega)
    have hrr := rnd_rnd (n := m) (a := m.log2 - 52) (G := G) (by omega) hH
    rw [hK] at hrr
    have hS : Ieee.single.nearest neg m p = Ieee.single.word neg (min ((L + 149).toNat * 8388608 + rnd K G) Ieee.single.infRung) := by
      rw [nearest_rnd Ieee.single neg h (L := L) (by rw [g1, g2, hE]; exact hL), g2, g3]
      have e3 : (p - L).toNat = 0 := by omega
      have e4 : (L - p).toNat = m.log2 - 52 + G := by omega
      rw [e3, e4, Nat.pow_zero, Nat.mul_one, hrr]
      congr 4
    rw [hS]
    by_cases hK53 : K = 2 ^ 53
    · have hl : K.log2 = 53 := by rw [hK53]; decide
      by_cases hE2 : E - 22 ≤ -149
      · rw [nearest_rnd Ieee.single neg hK0 (L := L) (by rw [g1, g2, hl]; omega), g2, g3]
        have e3 : (E - 52 - L).toNat = 0 := by omega
        have e4 : (L - (E - 52)).toNat = G := by omega
        rw [e3, e4, Nat.pow_zero, Nat.mul_one]
        congr 4
      · rw [nearest_rnd Ieee.single neg hK0 (L := L + 1) (by rw [g1, g2, hl]; omega), g2, g3]
        have e3 : (E - 52 - (L + 1)).toNat = 0 := by omega
        have e4 : (L + 1 - (E - 52)).toNat = 30 := by omega
        have e5 : G = 29 := by omega
        rw [e3, e4, Nat.pow_zero, Nat.mul_one, e5, hK53]
        have e6 : rnd (2 ^ 53) 30 = 8388608 := by decide +kernel
        have e7 : rnd (2 ^ 53) 29 = 16777216 := by decide +kernel
        rw [e6, e7]
        have e8 : (L + 1 - -149).toNat * 8388608 + 8388608 = (L + 149).toNat * 8388608 + 16777216 := by omega
        rw [e8]
    · have hl : K.log2 = 52 := by
        apply Nat.le_antisymm
        · exact Nat.le_of_lt_succ ((Nat.log2_lt hK0).2 (by omega))
        · exact (Nat.le_log2 hK0).2 hKb.1
      rw [nearest_rnd Ieee.single neg hK0 (L := L) (by rw [g1, g2, hl]; omega), g2, g3]
      have e3 : (E - 52 - L).toNat = 0 := by omega
      have e4 : (L - (E - 52)).toNat = G := by omega
      rw [e3, e4, Nat.pow_zero, Nat.mul_one]
      congr 4
end Go.Proofs.Ytapcgokcfmklbaa

namespace Go.Proofs.Ytapcgokcfmklbaa
open Go Go.RowKit

theorem rnd_near {n a : Nat} (ha : 1 ≤ a) : rnd n a * 2 ^ a ≤ n + 2 ^ (a - 1) ∧ n ≤ rnd n a * 2 ^ a + 2 ^ (a - 1) := by
  have h1 := Nat.div_add_mod n (2 ^ a)
  have h2 : 2 ^ a = 2 * 2 ^ (a - 1) := by rw [← Nat.pow_succ']; congr 1; omega
  have h3 : n % 2 ^ a < 2 ^ a := Nat.mod_lt _ (Nat.two_pow_pos a)
  rw [Nat.mul_comm] at h1
  unfold rnd
  split
  · rw [Nat.add_mul, Nat.one_mul]; omega
  · rename_i hc
    have : ¬ 2 ^ a < 2 * (n % 2 ^ a) := fun h => hc (.inl h)
    rw [Nat.add_zero]; omega
/-- no sum of two singles comes, in 64 bits, to a middle that it is not -/
theorem sum_H1 {m n i j e T : Nat} (hm : m < 2 ^ 24) (hn : n < 2 ^ 24) (hi : 925 ≤ i) (hj : 925 ≤ j) (hij : j ≤ i) (hT : T = m * 2 ^ i + n * 2 ^ j ∨ T + n * 2 ^ j = m * 2 ^ i) (h0 : T ≠ 0) (he : T.log2 = e) (h53 : 52 < e)
    {G : Nat} (hG : (G : Int) = max ((e : Int) - 1074 - 23) (-149) - ((e : Int) - 1074 - 52)) (hK : rnd T (e - 52) % 2 ^ G = 2 ^ (G - 1)) : T % 2 ^ (e - 52) = 0 := by
  have hdvd : ∀ a, a ≤ j → T % 2 ^ a = 0 := by
    intro a ha
    have h1 : 2 ^ a ∣ m * 2 ^ i := Nat.dvd_trans (Nat.pow_dvd_pow 2 (by omega)) (Nat.dvd_mul_left _ _)
    have h2 : 2 ^ a ∣ n * 2 ^ j := Nat.dvd_trans (Nat.pow_dvd_pow 2 ha) (Nat.dvd_mul_left _ _)
    apply Nat.mod_eq_zero_of_dvd
    rcases hT with hT | hT
    · rw [hT]; exact Nat.dvd_add h1 h2
    · exact (Nat.dvd_add_iff_left h2).2 (hT ▸ h1)
  by_cases hb : e ≤ 948
  · exact hdvd _ (by omega)
  by_cases hj2 : e - 52 ≤ j
  · exact hdvd _ hj2
  exfalso
  have hG29 : G = 29 := by omega
  subst hG29
  have hTl := Nat.log2_self_le h0
  have hTu : T < 2 ^ (T.log2 + 1) := Nat.lt_log2_self
  rw [he] at hTl hTu
  obtain ⟨f, hf⟩ : ∃ f, e = f + 53 := ⟨e - 53, by omega⟩
  subst hf
  have ea : f + 53 - 52 = f + 1 := by omega
  rw [ea] at hK
  obtain ⟨K, hKv⟩ : ∃ K, rnd T (f + 1) = K := ⟨_, rfl⟩
  have hnear := rnd_near (n := T) (a := f + 1) (by omega)
  have hbd := rnd_bd (m := T) (k := f + 1) h0 (by omega)
  rw [he, show f + 53 - (f + 1) = 52 by omega] at hbd
  rw [hKv] at hK hnear hbd
  rw [show f + 1 - 1 = f by omega] at hnear
  -- the middle
  obtain ⟨q, hq⟩ : ∃ q, K = 2 ^ 28 * (2 * q + 1) := ⟨K / 2 ^ 29, by have := Nat.div_add_mod K (2 ^ 29); rw [hK] at this; omega⟩
  have e1 : (2 : Nat) ^ (f + 1) = 2 * 2 ^ f := by rw [Nat.pow_succ, Nat.mul_comm]
  have e2 : (2 : Nat) ^ (f + 29) = 2 ^ 29 * 2 ^ f := by rw [Nat.pow_add, Nat.mul_comm]
  have e3 : (2 : Nat) ^ (f + 53) = 2 ^ 53 * 2 ^ f := by rw [Nat.pow_add, Nat.mul_comm]
  have hM : K * 2 ^ (f + 1) = (2 * q + 1) * 2 ^ (f + 29) := by
    rw [hq, e1, e2]
    generalize 2 * q + 1 = y
    generalize 2 ^ f = z
    rw [Nat.mul_comm (2 ^ 28) y, Nat.mul_assoc, ← Nat.mul_assoc (2 ^ 28) 2 z]
  have hMl : 2 ^ (f + 53) ≤ K * 2 ^ (f + 1) := by
    rw [e3, e1]
    have := Nat.mul_le_mul_right (2 * 2 ^ f) hbd.1
    omega
  -- the small part
  have hB : n * 2 ^ j ≤ 2 ^ 24 * 2 ^ f := Nat.mul_le_mul (Nat.le_of_lt hn) (Nat.pow_le_pow_right (by decide) (by omega))
  have hfp : 0 < 2 ^ f := Nat.two_pow_pos f
  -- the great part
  have hi2 : f + 29 ≤ i := by
    rcases Nat.lt_or_ge i (f + 29) with hlt | hge
    · exfalso
      have h1 : m * 2 ^ i ≤ 2 ^ 24 * 2 ^ (f + 28) := Nat.mul_le_mul (Nat.le_of_lt hm) (Nat.pow_le_pow_right (by decide) (by omega))
      have h2 : (2 : Nat) ^ (f + 28) = 2 ^ 28 * 2 ^ f := by rw [Nat.pow_add, Nat.mul_comm]
      rw [h2] at h1
      rw [e3] at hTl
      omega
    · exact hge
  obtain ⟨c, hc⟩ : ∃ c, i = f + 29 + c := ⟨i - (f + 29), by omega⟩
  have hA : m * 2 ^ i = (m * 2 ^ c) * 2 ^ (f + 29) := by rw [hc, Nat.pow_add, Nat.mul_comm (2 ^ (f + 29)), Nat.mul_assoc]
  have hAM : m * 2 ^ c = 2 * q + 1 := by
    rw [hM] at hnear
    rw [hA] at hT
    rcases Nat.lt_trichotomy (m * 2 ^ c) (2 * q + 1) with h | h | h
    · exfalso
      have h1 := Nat.mul_le_mul_right (2 ^ (f + 29)) (show m * 2 ^ c + 1 ≤ 2 * q + 1 from h)
      rw [Nat.add_mul, Nat.one_mul] at h1
      generalize (m * 2 ^ c) * 2 ^ (f + 29) = x at *
      generalize (2 * q + 1) * 2 ^ (f + 29) = y at *
      omega
    · exact h
    · exfalso
      have h1 := Nat.mul_le_mul_right (2 ^ (f + 29)) (show 2 * q + 1 + 1 ≤ m * 2 ^ c from h)
      rw [Nat.add_mul (2 * q + 1) 1, Nat.one_mul] at h1
      generalize (m * 2 ^ c) * 2 ^ (f + 29) = x at *
      generalize (2 * q + 1) * 2 ^ (f + 29) = y at *
      omega
  have hc0 : c = 0 := by
    rcases Nat.eq_zero_or_pos c with h | h
    · exact h
    · exfalso
      obtain ⟨d, hd⟩ : ∃ d, c = d + 1 := ⟨c - 1, by omega⟩
      rw [hd, Nat.pow_succ, ← Nat.mul_assoc] at hAM
      omega
  rw [hc0, Nat.pow_zero, Nat.mul_one] at hAM
  rw [hM, ← hAM] at hMl
  have h9 : m * 2 ^ (f + 29) < 2 ^ 24 * 2 ^ (f + 29) := Nat.mul_lt_mul_of_pos_right hm (Nat.two_pow_pos _)
  rw [e2] at h9
  rw [e3, e2] at hMl
  omega
/-- a number as a whole multiple of 2^-1074 -/
def val64 (s : Bool) (m : Nat) (p : Int) : Int := Ieee.signed s m (p + 1074).toNat
theorem val_abs (s : Bool) (m u : Nat) : (Ieee.signed s m u).natAbs = m * 2 ^ u := by
  unfold Ieee.signed
  rw [Nat.shiftLeft_eq]
  cases s
  · exact Int.natAbs_natCast _
  · simp only [if_true]; rw [Int.natAbs_neg]; exact Int.natAbs_natCast _
/-- a sum of two data, in units of 2^-1074 -/
theorem sum_write (f : Ieee.Format) {s t : Bool} {m n : Nat} {p q : Int} (hp : -1074 ≤ p) (hq : -1074 ≤ q) (h0 : val64 s m p + val64 t n q ≠ 0) :
    (((Ieee.Datum.number s m p).sum (.number t n q)).map f.write) = some (f.nearest (decide (val64 s m p + val64 t n q < 0)) (val64 s m p + val64 t n q).natAbs (-1074)) := by
  simp only [Ieee.Datum.sum, Option.map_some, Ieee.Format.write]
  obtain ⟨b, hb⟩ : ∃ b, min p q = b := ⟨_, rfl⟩
  rw [hb]
  have e1 : val64 s m p = Ieee.signed s m (p - b).toNat * 2 ^ (b + 1074).toNat := by
    unfold val64; rw [← signed_shift]; congr 1; omega
  have e2 : val64 t n q = Ieee.signed t n (q - b).toNat * 2 ^ (b + 1074).toNat := by
    unfold val64; rw [← signed_shift]; congr 1; omega
  rw [e1, e2, ← Int.add_mul] at h0 ⊢
  generalize Ieee.signed s m (p - b).toNat + Ieee.signed t n (q - b).toNat = z at *
  have hk : (0 : Int) < 2 ^ (b + 1074).toNat := Int.pow_pos (by decide)
  have hz : z ≠ 0 := fun h => h0 (by rw [h, Int.zero_mul])
  rw [if_neg hz]
  have e3 : decide (z * 2 ^ (b + 1074).toNat < 0) = decide (z < 0) := by
    apply decide_eq_decide.2
    constructor
    · intro h
      rcases Int.lt_or_le z 0 with h1 | h1
      · exact h1
      · have := Int.mul_nonneg h1 (Int.le_of_lt hk); omega
    · intro h; exact Int.mul_neg_of_neg_of_pos h hk
  have e4 : (z * 2 ^ (b + 1074).toNat).natAbs = z.natAbs * 2 ^ (b + 1074).toNat := by
    rw [Int.natAbs_mul, Int.natAbs_pow]; rfl
  rw [e3, e4, nearest_up f _ (by omega)]
  congr 2; omega
end Go.Proofs.Ytapcgokcfmklbaa

namespace Go.Proofs.Ytapcgokcfmklbaa
open Go Go.RowKit

/-- a quotient's digits, and one more that tells whether anything is left over -/
def stk (N n : Nat) : Nat := 2 * (N / n) + (if N % n = 0 then 0 else 1)
/-- N / (n * 2^(a-1)) to the nearest, ties to even -/
def RR (N n a : Nat) : Nat := N / (n * 2 ^ (a - 1)) + (if n * 2 ^ (a - 1) < 2 * (N % (n * 2 ^ (a - 1))) ∨ (n * 2 ^ (a - 1) = 2 * (N % (n * 2 ^ (a - 1))) ∧ N / (n * 2 ^ (a - 1)) % 2 = 1) then 1 else 0)
end Go.Proofs.Ytapcgokcfmklbaa

namespace Go.Proofs.Ytapcgokcfmklbaa
open Go Go.RowKit

theorem read_exact (neg : Bool) {m : Nat} {p : Int} (h : m ≠ 0) (hl : m.log2 ≤ 52) (hlo : -1022 ≤ p + m.log2) (hhi : p + m.log2 ≤ 1000) :
    Ieee.double.read (Ieee.double.nearest neg m p) = .number neg (m * 2 ^ (52 - m.log2)) (p - ((52 - m.log2 : Nat) : Int)) := by
  obtain ⟨E, hE⟩ : ∃ E, p + m.log2 = E := ⟨_, rfl⟩
  have f1 : Ieee.double.fractionBits = 52 := rfl
  have f2 : Ieee.double.leastPlace = -1074 := by decide
  have f3 : Ieee.double.binade = 4503599627370496 := by decide
  have f4 : Ieee.double.infRung = 9218868437227405312 := by decide
  have f5 : Ieee.double.signWeight = 9223372036854775808 := by decide
  have hD : max (p + m.log2 - Ieee.double.fractionBits) Ieee.double.leastPlace = E - 52 := by rw [f1, f2, hE]; omega
  obtain ⟨K, hK⟩ : ∃ K, m * 2 ^ (52 - m.log2) = K := ⟨_, rfl⟩
  have h2 : K ≠ 0 := by rw [← hK]; exact Nat.mul_ne_zero h (Nat.ne_of_gt (Nat.two_pow_pos _))
  have h4 : K.log2 = 52 := by rw [← hK, log2_up h]; omega
  have h5 := Nat.log2_self_le h2
  have h6 : K < 2 ^ (K.log2 + 1) := Nat.lt_log2_self
  rw [h4] at h5 h6
  have c52 : (2 : Nat) ^ 52 = 4503599627370496 := by decide
  have c53 : (2 : Nat) ^ (52 + 1) = 9007199254740992 := by decide
  rw [c52] at h5
  rw [c53] at h6
  have hnear := nearest_rnd Ieee.double neg h hD
  have e1 : (p - (E - 52)).toNat = 52 - m.log2 := by omega
  have e2 : (E - 52 - p).toNat = 0 := by omega
  rw [e1, e2, rnd_zero, hK, f2, f3, f4] at hnear
  have hr : (E - 52 - -1074).toNat * 4503599627370496 + K < 9218868437227405312 := by omega
  rw [Nat.min_eq_left (by omega)] at hnear
  rw [hnear, hK]
  obtain ⟨R, hR⟩ : ∃ R, (E - 52 - -1074).toNat * 4503599627370496 + K = R := ⟨_, rfl⟩
  rw [hR] at hr ⊢
  have hw1 : (Ieee.double.word neg R / 9223372036854775808 % 2 == 1) = neg := by
    unfold Ieee.Format.word
    rw [f5]
    cases neg
    · simp only [Bool.false_eq_true, if_false]
      rw [Nat.div_eq_of_lt (by omega)]; rfl
    · simp only [if_true]
      rw [show (9223372036854775808 + R) / 9223372036854775808 = 1 by omega]; rfl
  have hw2 : Ieee.double.word neg R % 9223372036854775808 = R := by
    unfold Ieee.Format.word
    rw [f5]
    cases neg
    · simp only [Bool.false_eq_true, if_false]; omega
    · simp only [if_true]; omega
  unfold Ieee.Format.read
  simp only [f2, f3, f4, f5]
  rw [hw1, hw2]
  obtain ⟨u, hu⟩ : ∃ u : Nat, (E - 52 - -1074).toNat = u := ⟨_, rfl⟩
  rw [hu] at hR
  have hEu : (u : Int) = E - 52 + 1074 := by omega
  rw [if_neg (show ¬ R < 4503599627370496 by omega), if_pos (by omega)]
  congr 1
  · omega
  · omega
theorem quo_form (d : Nat) (s t : Bool) (m n : Nat) (i j : Int) (hn : n ≠ 0) : (Ieee.Datum.number s m i).quotient d (.number t n j) = some (.number (s ^^ t) (stk (m * 2 ^ (d + n.log2 - m.log2)) n) (i - j - ((d + n.log2 - m.log2 : Nat) : Int) - 1)) := by
  unfold Ieee.Datum.quotient stk
  simp only
  rw [if_neg hn, Nat.shiftLeft_eq]
  congr 3
  by_cases h : m * 2 ^ (d + n.log2 - m.log2) % n = 0
  · rw [if_pos h, h]; rfl
  · rw [if_neg h]
    have : (m * 2 ^ (d + n.log2 - m.log2) % n != 0) = true := bne_iff_ne.2 h
    rw [this]; rfl
theorem single_div {x y : Nat} {s t : Bool} {m n : Nat} {i j : Int} (hx : Ieee.single.read x = .number s m i) (hy : Ieee.single.read y = .number t n j) (hn : n ≠ 0) :
    Ieee.single.div x y = some (Ieee.single.nearest (s ^^ t) (stk (m * 2 ^ (25 + n.log2 - m.log2)) n) (i - j - ((25 + n.log2 - m.log2 : Nat) : Int) - 1)) := by
  have h := quo_form (Ieee.single.fractionBits + 2) s t m n i j hn
  have e : Ieee.single.fractionBits + 2 = 25 := rfl
  rw [e] at h
  unfold Ieee.Format.div
  rw [hx, hy, e, h, Option.map_some]
  rfl
theorem f32_f64 {x : Nat} {s s2 : Bool} {m m2 : Nat} {i i2 : Int} (hx : Ieee.single.read x = .number s m i) (h2 : Ieee.double.read (Ieee.double.nearest s m i) = .number s2 m2 i2) : floatToFloatBits .f32 x .f64 = some (Ieee.double.nearest s m i) := by
  unfold floatToFloatBits
  rw [if_neg (by decide)]
  have e : FloatKind.f32.decode x = .number s m i := hx
  rw [e]
  simp only
  have e2 : FloatKind.f64.encode (.number s m i) = Ieee.double.nearest s m i := rfl
  have e3 : FloatKind.f64.decode (Ieee.double.nearest s m i) = .number s2 m2 i2 := h2
  rw [e2, e3]
  rfl
theorem f64_f32 {z r : Nat} {s : Bool} {m : Nat} {i : Int} (hz : Ieee.double.read z = .number s m i) (hr : Ieee.single.nearest s m i = r) (hf : (Ieee.single.read r).isInfinity = false) : floatToFloatBits .f64 z .f32 = some r := by
  unfold floatToFloatBits
  rw [if_neg (by decide)]
  have e : FloatKind.f64.decode z = .number s m i := hz
  rw [e]
  simp only
  have e2 : FloatKind.f32.encode (.number s m i) = r := hr
  have e3 : (FloatKind.f32.decode r).isInfinity = false := hf
  rw [e2, e3]
  rfl
end Go.Proofs.Ytapcgokcfmklbaa

namespace Go.Proofs.Ytapcgokcfmklbaa
open Go Go.RowKit

theorem single_log {m : Nat} (h0 : m ≠ 0) (h : m ≤ 16777215) : m.log2 ≤ 23 := by
  have e : (2 : Nat) ^ (23 + 1) = 16777216 := by decide
  exact Nat.le_of_lt_succ ((Nat.log2_lt h0).2 (by rw [e]; omega))
/-- a single's double: what it reads as -/
theorem wide_read {s : Bool} {m : Nat} {i : Int} (hm : m ≤ 16777215) (hi : -149 ≤ i) (hi2 : i ≤ 104) :
    (m = 0 ∧ Ieee.double.read (Ieee.double.nearest s m i) = .number s 0 (-1074)) ∨ (m ≠ 0 ∧ Ieee.double.read (Ieee.double.nearest s m i) = .number s (m * 2 ^ (52 - m.log2)) (i - ((52 - m.log2 : Nat) : Int))) := by
  by_cases h0 : m = 0
  · left
    subst h0
    refine ⟨rfl, ?_⟩
    have e : Ieee.double.nearest s 0 i = Ieee.double.word s 0 := if_pos rfl
    rw [e]
    cases s
    · decide +kernel
    · decide +kernel
  · right
    have hl := single_log h0 hm
    exact ⟨h0, read_exact s h0 (by omega) (by omega) (by omega)⟩
theorem wide_conv {x : Nat} {s : Bool} {m : Nat} {i : Int} (hx : Ieee.single.read x = .number s m i) : floatToFloatBits .f32 x .f64 = some (Ieee.double.nearest s m i) := by
  have hb := num_bd hx
  rcases wide_read (s := s) hb.1 hb.2.2 hb.2.1 with ⟨_, h⟩ | ⟨_, h⟩
  · exact f32_f64 hx h
  · exact f32_f64 hx h
theorem zero_back (sg : Bool) {r : Nat} (hr : Ieee.single.word sg 0 = r) : floatToFloatBits .f64 (Ieee.double.word sg 0) .f32 = some r := by
  subst hr
  cases sg
  · decide +kernel
  · decide +kernel
/-- a product -/
theorem mul_double {x y r : Nat} {s t : Bool} {m n : Nat} {i j : Int} (hx : Ieee.single.read x = .number s m i) (hy : Ieee.single.read y = .number t n j)
    (hr : fop .mul x y = some r) (hfin : (Ieee.single.read r).isInfinity = false) :
    ∃ X Y Z, floatToFloatBits .f32 x .f64 = some X ∧ floatToFloatBits .f32 y .f64 = some Y ∧ Ieee.double.mul X Y = some Z ∧ floatToFloatBits .f64 Z .f32 = some r := by
  have hbx := num_bd hx
  have hby := num_bd hy
  have hr1 : r = Ieee.single.nearest (s ^^ t) (m * n) (i + j) := by
    have h1 : fop .mul x y = some (Ieee.single.nearest (s ^^ t) (m * n) (i + j)) := by
      show Ieee.single.mul x y = _
      unfold Ieee.Format.mul
      rw [hx, hy]; rfl
    rw [h1] at hr
    exact (Option.some.inj hr).symm
  have wx := wide_read (s := s) hbx.1 hbx.2.2 hbx.2.1
  have wy := wide_read (s := t) hby.1 hby.2.2 hby.2.1
  have mul2 : ∀ {m2 n2 : Nat} {i2 j2 : Int}, Ieee.double.read (Ieee.double.nearest s m i) = .number s m2 i2 → Ieee.double.read (Ieee.double.nearest t n j) = .number t n2 j2 →
      Ieee.double.mul (Ieee.double.nearest s m i) (Ieee.double.nearest t n j) = some (Ieee.double.nearest (s ^^ t) (m2 * n2) (i2 + j2)) := by
    intro m2 n2 i2 j2 h1 h2
    unfold Ieee.Format.mul
    rw [h1, h2]; rfl
  by_cases h0 : m * n = 0
  · have hz : ∃ i2 j2 m2 n2, Ieee.double.read (Ieee.double.nearest s m i) = .number s m2 i2 ∧ Ieee.double.read (Ieee.double.nearest t n j) = .number t n2 j2 ∧ m2 * n2 = 0 := by
      rcases wx with ⟨a1, a2⟩ | ⟨a1, a2⟩
      · rcases wy with ⟨b1, b2⟩ | ⟨b1, b2⟩
        · exact ⟨_, _, _, _, a2, b2, rfl⟩
        · exact ⟨_, _, _, _, a2, b2, Nat.zero_mul _⟩
      · rcases wy with ⟨b1, b2⟩ | ⟨b1, b2⟩
        · exact ⟨_, _, _, _, a2, b2, Nat.mul_zero _⟩
        · exact absurd h0 (Nat.mul_ne_zero a1 b1)
    obtain ⟨i2, j2, m2, n2, a2, b2, hz2⟩ := hz
    have e1 : Ieee.double.nearest (s ^^ t) (m2 * n2) (i2 + j2) = Ieee.double.word (s ^^ t) 0 := by unfold Ieee.Format.nearest; rw [if_pos hz2]
    have e2 : Ieee.single.word (s ^^ t) 0 = r := by rw [hr1]; unfold Ieee.Format.nearest; rw [if_pos h0]
    exact ⟨_, _, _, wide_conv hx, wide_conv hy, (mul2 a2 b2).trans (congrArg some e1), zero_back _ e2⟩
  · have hm0 : m ≠ 0 := fun h => h0 (by rw [h, Nat.zero_mul])
    have hn0 : n ≠ 0 := fun h => h0 (by rw [h, Nat.mul_zero])
    have lm := single_log hm0 hbx.1
    have ln := single_log hn0 hby.1
    have a2 := (wx.resolve_left (fun h => hm0 h.1)).2
    have b2 := (wy.resolve_left (fun h => hn0 h.1)).2
    obtain ⟨u, hu⟩ : ∃ u, 52 - m.log2 = u := ⟨_, rfl⟩
    obtain ⟨v, hv⟩ : ∃ v, 52 - n.log2 = v := ⟨_, rfl⟩
    rw [hu] at a2
    rw [hv] at b2
    have e1 : Ieee.double.nearest (s ^^ t) (m * 2 ^ u * (n * 2 ^ v)) (i - (u : Int) + (j - (v : Int))) = Ieee.double.nearest (s ^^ t) (m * n) (i + j) := by
      have h1 : m * 2 ^ u * (n * 2 ^ v) = m * n * 2 ^ (u + v) := by rw [Nat.pow_add, Nat.mul_mul_mul_comm]
      rw [h1, nearest_up _ _ h0]
      congr 1; omega
    have hml : m < 2 ^ (m.log2 + 1) := Nat.lt_log2_self
    have hlog : (m * n).log2 ≤ 47 := by
      refine Nat.le_of_lt_succ ((Nat.log2_lt h0).2 ?_)
      have h2 : (2 : Nat) ^ 48 = 16777216 * 16777216 := by decide
      show m * n < 2 ^ (47 + 1)
      rw [show (2 : Nat) ^ (47 + 1) = 16777216 * 16777216 from h2]
      exact Nat.mul_lt_mul'' (by omega) (by omega)
    obtain ⟨m', p', k1, k2, k3⟩ := dbl_round (s ^^ t) (m := m * n) (p := i + j) h0 (by omega) (by omega) (fun h52 => by omega)
    rw [← hr1] at k3
    exact ⟨_, _, _, wide_conv hx, wide_conv hy, (mul2 a2 b2).trans (congrArg some e1), f64_f32 k1 k3 hfin⟩
/-- a wide number has the value of the narrow one -/
theorem wide_val {s : Bool} {m u : Nat} {i : Int} (hi : -1074 + (u : Int) ≤ i) : val64 s (m * 2 ^ u) (i - (u : Int)) = val64 s m i := by
  unfold val64 Ieee.signed
  have e : (m * 2 ^ u) <<< (i - (u : Int) + 1074).toNat = m <<< (i + 1074).toNat := by
    rw [Nat.shiftLeft_eq, Nat.shiftLeft_eq, Nat.mul_assoc, ← Nat.pow_add]
    congr 2; omega
  rw [e]
theorem sum_zero {s t : Bool} {m n : Nat} {p q : Int} (f : Ieee.Format) (hp : -1074 ≤ p) (hq : -1074 ≤ q) (h0 : val64 s m p + val64 t n q = 0) :
    (((Ieee.Datum.number s m p).sum (.number t n q)).map f.write) = some (f.word (s && t) 0) := by
  simp only [Ieee.Datum.sum, Option.map_some, Ieee.Format.write]
  obtain ⟨b, hb⟩ : ∃ b, min p q = b := ⟨_, rfl⟩
  rw [hb]
  have e1 : val64 s m p = Ieee.signed s m (p - b).toNat * 2 ^ (b + 1074).toNat := by
    unfold val64; rw [← signed_shift]; congr 1; omega
  have e2 : val64 t n q = Ieee.signed t n (q - b).toNat * 2 ^ (b + 1074).toNat := by
    unfold val64; rw [← signed_shift]; congr 1; omega
  rw [e1, e2, ← Int.add_mul] at h0
  have hk : (0 : Int) < 2 ^ (b + 1074).toNat := Int.pow_pos (by decide)
  have hz : Ieee.signed s m (p - b).toNat + Ieee.signed t n (q - b).toNat = 0 := by
    rcases Int.mul_eq_zero.1 h0 with h | h
    · exact h
    · omega
  rw [hz, if_pos rfl]
  unfold Ieee.Format.nearest
  rw [if_pos (by rfl)]
theorem sum_T {s t : Bool} {m n a b : Nat} : (Ieee.signed s m a + Ieee.signed t n b).natAbs = m * 2 ^ a + n * 2 ^ b ∨ (Ieee.signed s m a + Ieee.signed t n b).natAbs + n * 2 ^ b = m * 2 ^ a ∨ (Ieee.signed s m a + Ieee.signed t n b).natAbs + m * 2 ^ a = n * 2 ^ b := by
  unfold Ieee.signed
  rw [Nat.shiftLeft_eq, Nat.shiftLeft_eq]
  generalize m * 2 ^ a = x
  generalize n * 2 ^ b = y
  cases s <;> cases t <;> simp only [if_true, Bool.false_eq_true, if_false] <;> omega
/-- the small one's exponent is the greater: all digits are kept -/
theorem sum_H2 {m n i j e T : Nat} (hm : m < 2 ^ 24) (hij : i ≤ j) (hT : T + n * 2 ^ j = m * 2 ^ i) (h0 : T ≠ 0) (he : T.log2 = e) (h53 : 52 < e) : T % 2 ^ (e - 52) = 0 := by
  have h1 : T ≤ m * 2 ^ i := by omega
  have h2 : m * 2 ^ i < 2 ^ 24 * 2 ^ i := Nat.mul_lt_mul_of_pos_right hm (Nat.two_pow_pos _)
  rw [← Nat.pow_add] at h2
  have h3 : e < 24 + i := by
    rw [← he]
    exact (Nat.log2_lt h0).2 (by omega)
  apply Nat.mod_eq_zero_of_dvd
  have d1 : 2 ^ (e - 52) ∣ m * 2 ^ i := Nat.dvd_trans (Nat.pow_dvd_pow 2 (by omega)) (Nat.dvd_mul_left _ _)
  have d2 : 2 ^ (e - 52) ∣ n * 2 ^ j := Nat.dvd_trans (Nat.pow_dvd_pow 2 (by omega)) (Nat.dvd_mul_left _ _)
  exact (Nat.dvd_add_iff_left d2).2 (hT ▸ d1)
theorem sum_H {m n i j e T : Nat} (hm : m < 2 ^ 24) (hn : n < 2 ^ 24) (hi : 925 ≤ i) (hj : 925 ≤ j) (hT : T = m * 2 ^ i + n * 2 ^ j ∨ T + n * 2 ^ j = m * 2 ^ i ∨ T + m * 2 ^ i = n * 2 ^ j) (h0 : T ≠ 0) (he : T.log2 = e) (h53 : 52 < e)
    {G : Nat} (hG : (G : Int) = max ((e : Int) - 1074 - 23) (-149) - ((e : Int) - 1074 - 52)) (hK : rnd T (e - 52) % 2 ^ G = 2 ^ (G - 1)) : T % 2 ^ (e - 52) = 0 := by
  rcases Nat.le_total j i with hij | hij
  · rcases hT with hT | hT | hT
    · exact sum_H1 hm hn hi hj hij (.inl hT) h0 he h53 hG hK
    · exact sum_H1 hm hn hi hj hij (.inr hT) h0 he h53 hG hK
    · exact sum_H2 hn hij hT h0 he h53
  · rcases hT with hT | hT | hT
    · exact sum_H1 hn hm hj hi hij (.inl (by omega)) h0 he h53 hG hK
    · exact sum_H2 hm hij hT h0 he h53
    · exact sum_H1 hn hm hj hi hij (.inr hT) h0 he h53 hG hK
theorem sum_core {s t : Bool} {m n : Nat} {i j : Int} {r : Nat} (hm : m ≤ 16777215) (hn : n ≤ 16777215) (hi : -149 ≤ i) (hi2 : i ≤ 104) (hj : -149 ≤ j) (hj2 : j ≤ 104)
    (hr : ((Ieee.Datum.number s m i).sum (.number t n j)).map Ieee.single.write = some r) (hfin : (Ieee.single.read r).isInfinity = false) {m2 n2 : Nat} {i2 j2 : Int} (hpi : -1074 ≤ i2) (hpj : -1074 ≤ j2) (hv1 : val64 s m2 i2 = val64 s m i) (hv2 : val64 t n2 j2 = val64 t n j) :
    ∃ Z, ((Ieee.Datum.number s m2 i2).sum (.number t n2 j2)).map Ieee.double.write = some Z ∧ floatToFloatBits .f64 Z .f32 = some r := by
  by_cases h0 : val64 s m i + val64 t n j = 0
  · rw [sum_zero Ieee.single (by omega) (by omega) h0] at hr
    refine ⟨_, sum_zero Ieee.double hpi hpj (by rw [hv1, hv2]; exact h0), zero_back _ (Option.some.inj hr)⟩
  · rw [sum_write Ieee.single (by omega) (by omega) h0] at hr
    have hr := Option.some.inj hr
    have hd := sum_write Ieee.double (s := s) (t := t) (m := m2) (n := n2) hpi hpj (by rw [hv1, hv2]; exact h0)
    rw [hv1, hv2] at hd
    have hT := sum_T (s := s) (t := t) (m := m) (n := n) (a := (i + 1074).toNat) (b := (j + 1074).toNat)
    have hTe : Ieee.signed s m (i + 1074).toNat + Ieee.signed t n (j + 1074).toNat = val64 s m i + val64 t n j := rfl
    rw [hTe] at hT
    obtain ⟨T, hTv⟩ : ∃ T, (val64 s m i + val64 t n j).natAbs = T := ⟨_, rfl⟩
    have hT0 : T ≠ 0 := by omega
    rw [hTv] at hr hd hT
    obtain ⟨a, ha⟩ : ∃ a, (i + 1074).toNat = a := ⟨_, rfl⟩
    obtain ⟨b, hb⟩ : ∃ b, (j + 1074).toNat = b := ⟨_, rfl⟩
    rw [ha, hb] at hT
    have hab : 925 ≤ a ∧ a ≤ 1178 ∧ 925 ≤ b ∧ b ≤ 1178 := by omega
    -- its size
    obtain ⟨K, hK⟩ : ∃ K : Nat, K = 925 := ⟨_, rfl⟩
    have hdv : 2 ^ K ∣ T := by
      have d1 : 2 ^ K ∣ m * 2 ^ a := Nat.dvd_trans (Nat.pow_dvd_pow 2 (by omega)) (Nat.dvd_mul_left _ _)
      have d2 : 2 ^ K ∣ n * 2 ^ b := Nat.dvd_trans (Nat.pow_dvd_pow 2 (by omega)) (Nat.dvd_mul_left _ _)
      rcases hT with h | h | h
      · rw [h]; exact Nat.dvd_add d1 d2
      · exact (Nat.dvd_add_iff_left d2).2 (h ▸ d1)
      · exact (Nat.dvd_add_iff_left d1).2 (h ▸ d2)
    have hlo : 925 ≤ T.log2 := by
      rw [← hK]; exact (Nat.le_log2 hT0).2 (Nat.le_of_dvd (Nat.pos_of_ne_zero hT0) hdv)
    clear hdv hK
    have c24 : (2 : Nat) ^ 24 = 16777216 := by decide
    obtain ⟨L, hL⟩ : ∃ L : Nat, L = 1178 := ⟨_, rfl⟩
    have hhi0 : T.log2 < 24 + L + 1 + 1 := by
      refine (Nat.log2_lt hT0).2 ?_
      have u1 : m * 2 ^ a ≤ 2 ^ 24 * 2 ^ L := Nat.mul_le_mul (by rw [c24]; omega) (Nat.pow_le_pow_right (by decide) (by omega))
      have u2 : n * 2 ^ b ≤ 2 ^ 24 * 2 ^ L := Nat.mul_le_mul (by rw [c24]; omega) (Nat.pow_le_pow_right (by decide) (by omega))
      rw [← Nat.pow_add] at u1 u2
      have u4 : 0 < 2 ^ (24 + L) := Nat.two_pow_pos _
      rw [Nat.pow_succ, Nat.pow_succ]
      generalize 2 ^ (24 + L) = z at *
      omega
    have hhi : T.log2 < 1204 := by omega
    clear hhi0 hL
    obtain ⟨m', p', k1, k2, k3⟩ := dbl_round (decide (val64 s m i + val64 t n j < 0)) (m := T) (p := -1074) hT0 (by omega) (by omega) (fun h52 G hG hK =>
      sum_H (by rw [c24]; omega) (by rw [c24]; omega) hab.1 hab.2.2.1 hT hT0 rfl h52 (by omega) hK)
    rw [hr] at k3
    exact ⟨_, hd, f64_f32 k1 k3 hfin⟩
theorem wide_ex {s : Bool} {m : Nat} {i : Int} (hm : m ≤ 16777215) (hi : -149 ≤ i) (hi2 : i ≤ 104) : ∃ m2 i2, Ieee.double.read (Ieee.double.nearest s m i) = .number s m2 i2 ∧ -1074 ≤ i2 ∧ val64 s m2 i2 = val64 s m i := by
  rcases wide_read (s := s) hm hi hi2 with ⟨h1, h2⟩ | ⟨h1, h2⟩
  · subst h1
    refine ⟨_, _, h2, Int.le_refl _, ?_⟩
    unfold val64 Ieee.signed
    rw [Nat.zero_shiftLeft, Nat.zero_shiftLeft]
  · have hl := single_log h1 hm
    exact ⟨_, _, h2, by omega, wide_val (by omega)⟩
/-- a sum -/
theorem add_double {x y r : Nat} {s t : Bool} {m n : Nat} {i j : Int} (hx : Ieee.single.read x = .number s m i) (hy : Ieee.single.read y = .number t n j)
    (hr : fop .add x y = some r) (hfin : (Ieee.single.read r).isInfinity = false) :
    ∃ X Y Z, floatToFloatBits .f32 x .f64 = some X ∧ floatToFloatBits .f32 y .f64 = some Y ∧ Ieee.double.add X Y = some Z ∧ floatToFloatBits .f64 Z .f32 = some r := by
  have hbx := num_bd hx
  have hby := num_bd hy
  obtain ⟨m2, i2, a1, a2, a3⟩ := wide_ex (s := s) hbx.1 hbx.2.2 hbx.2.1
  obtain ⟨n2, j2, b1, b2, b3⟩ := wide_ex (s := t) hby.1 hby.2.2 hby.2.1
  have h1 : ((Ieee.Datum.number s m i).sum (.number t n j)).map Ieee.single.write = some r := by
    have h2 : Ieee.single.add x y = some r := hr
    unfold Ieee.Format.add at h2
    rw [hx, hy] at h2; exact h2
  obtain ⟨Z, k1, k2⟩ := sum_core hbx.1 hby.1 hbx.2.2 hbx.2.1 hby.2.2 hby.2.1 h1 hfin a2 b2 a3 b3
  refine ⟨_, _, Z, wide_conv hx, wide_conv hy, ?_, k2⟩
  unfold Ieee.Format.add
  rw [a1, b1]; exact k1
theorem val_neg (t : Bool) (n : Nat) (j : Int) : val64 (!t) n j = - val64 t n j := by
  unfold val64 Ieee.signed
  cases t <;> simp
/-- a difference -/
theorem sub_double {x y r : Nat} {s t : Bool} {m n : Nat} {i j : Int} (hx : Ieee.single.read x = .number s m i) (hy : Ieee.single.read y = .number t n j)
    (hr : fop .sub x y = some r) (hfin : (Ieee.single.read r).isInfinity = false) :
    ∃ X Y Z, floatToFloatBits .f32 x .f64 = some X ∧ floatToFloatBits .f32 y .f64 = some Y ∧ Ieee.double.sub X Y = some Z ∧ floatToFloatBits .f64 Z .f32 = some r := by
  have hbx := num_bd hx
  have hby := num_bd hy
  obtain ⟨m2, i2, a1, a2, a3⟩ := wide_ex (s := s) hbx.1 hbx.2.2 hbx.2.1
  obtain ⟨n2, j2, b1, b2, b3⟩ := wide_ex (s := t) hby.1 hby.2.2 hby.2.1
  have h1 : ((Ieee.Datum.number s m i).sum (.number (!t) n j)).map Ieee.single.write = some r := by
    have h2 : Ieee.single.sub x y = some r := hr
    unfold Ieee.Format.sub at h2
    rw [hx, hy] at h2; exact h2
  obtain ⟨Z, k1, k2⟩ := sum_core (t := !t) hbx.1 hby.1 hbx.2.2 hbx.2.1 hby.2.2 hby.2.1 h1 hfin a2 b2 a3 (by rw [val_neg, val_neg, b3])
  refine ⟨_, _, Z, wide_conv hx, wide_conv hy, ?_, k2⟩
  unfold Ieee.Format.sub
  rw [a1, b1]; exact k1
end Go.Proofs.Ytapcgokcfmklbaa

namespace Go.Proofs.Ytapcgokcfmklbaa
open Go Go.RowKit

/-- x is a number, less than 2^B in size -/
def fb (x : Nat) (B : Int) : Prop := ∃ s m i, Ieee.single.read x = .number s m i ∧ (m = 0 ∨ i + (m.log2 : Int) < B)
theorem fb_mono {x : Nat} {B C : Int} (h : fb x B) (hc : B ≤ C) : fb x C := by
  obtain ⟨s, m, i, h1, h2⟩ := h
  exact ⟨s, m, i, h1, by omega⟩
theorem fb_fin {x : Nat} {B : Int} (h : fb x B) : (Ieee.single.read x).isInfinity = false := by
  obtain ⟨s, m, i, h1, _⟩ := h
  rw [h1]; rfl
theorem word_read (neg : Bool) {R : Nat} (hR : R < 2139095040) : Ieee.single.read (Ieee.single.word neg R) = if R < 8388608 then .number neg R (-149) else .number neg (8388608 + R % 8388608) (-149 + ((R / 8388608 - 1 : Nat) : Int)) := by
  have e1 : Ieee.single.signWeight = 2147483648 := rfl
  have e2 : Ieee.single.binade = 8388608 := rfl
  have e3 : Ieee.single.infRung = 2139095040 := rfl
  have e4 : Ieee.single.leastPlace = -149 := by decide
  have hw1 : (Ieee.single.word neg R / 2147483648 % 2 == 1) = neg := by
    unfold Ieee.Format.word
    rw [e1]
    cases neg
    · simp only [Bool.false_eq_true, if_false]
      rw [Nat.div_eq_of_lt (by omega)]; rfl
    · simp only [if_true]
      rw [show (2147483648 + R) / 2147483648 = 1 by omega]; rfl
  have hw2 : Ieee.single.word neg R % 2147483648 = R := by
    unfold Ieee.Format.word
    rw [e1]
    cases neg
    · simp only [Bool.false_eq_true, if_false]; omega
    · simp only [if_true]; omega
  unfold Ieee.Format.read
  simp only [e1, e2, e3, e4]
  rw [hw1, hw2]
  by_cases h3 : R < 8388608
  · rw [if_pos h3, if_pos h3]
  · rw [if_neg h3, if_neg h3, if_pos hR]
theorem log_le {m k : Nat} (h0 : m ≠ 0) (h : m ≤ 2 ^ k) : m.log2 ≤ k := by
  have h1 := Nat.log2_self_le h0
  rcases Nat.lt_or_ge k m.log2 with h2 | h2
  · have : 2 ^ (k + 1) ≤ 2 ^ m.log2 := Nat.pow_le_pow_right (by decide) h2
    rw [Nat.pow_succ] at this
    have := Nat.two_pow_pos k
    omega
  · exact h2
/-- what is rounded is not much greater -/
theorem near_fb (neg : Bool) {m : Nat} {p E B : Int} (h0 : m ≠ 0) (hE : p + (m.log2 : Int) = E) (hhi : E ≤ 120) (hB : E + 2 ≤ B) (hB2 : -148 ≤ B) : fb (Ieee.single.nearest neg m p) B := by
  have g1 : Ieee.single.fractionBits = 23 := rfl
  have g2 : Ieee.single.leastPlace = -149 := by decide
  have g3 : Ieee.single.binade = 8388608 := by decide
  have g4 : Ieee.single.infRung = 2139095040 := by decide
  have c23 : (2 : Nat) ^ 23 = 8388608 := by decide
  have c24 : (2 : Nat) ^ 24 = 16777216 := by decide
  obtain ⟨L, hL⟩ : ∃ L : Int, max (E - 23) (-149) = L := ⟨_, rfl⟩
  have hnr := nearest_rnd Ieee.single neg h0 (p := p) (L := L) (by rw [g1, g2, hE]; exact hL)
  rw [g2, g3, g4] at hnr
  obtain ⟨K, hK⟩ : ∃ K, rnd (m * 2 ^ (p - L).toNat) (L - p).toNat = K := ⟨_, rfl⟩
  rw [hK] at hnr
  obtain ⟨u, hu⟩ : ∃ u : Nat, (L - -149).toNat = u := ⟨_, rfl⟩
  rw [hu] at hnr
  -- K's size: less than or at 2^(E + 1 - L)
  obtain ⟨w, hw⟩ : ∃ w : Nat, (E + 1 - L).toNat = w := ⟨_, rfl⟩
  have hKb : K ≤ 2 ^ w ∧ (L = E - 23 → 8388608 ≤ K ∧ w = 24) := by
    by_cases hc : L ≤ p
    · have e2 : (L - p).toNat = 0 := by omega
      rw [e2, rnd_zero] at hK
      have hl2 := log2_up (t := (p - L).toNat) h0
      have hne : m * 2 ^ (p - L).toNat ≠ 0 := Nat.mul_ne_zero h0 (Nat.ne_of_gt (Nat.two_pow_pos _))
      have h1 : m * 2 ^ (p - L).toNat < 2 ^ ((m * 2 ^ (p - L).toNat).log2 + 1) := Nat.lt_log2_self
      have h2 := Nat.log2_self_le hne
      rw [hl2, hK] at h1 h2
      constructor
      · have : m.log2 + (p - L).toNat + 1 = w := by omega
        rw [this] at h1; omega
      · intro hLe
        have : m.log2 + (p - L).toNat = 23 := by omega
        rw [this, c23] at h2
        exact ⟨h2, by omega⟩
    · have e1 : (p - L).toNat = 0 := by omega
      rw [e1, Nat.pow_zero, Nat.mul_one] at hK
      obtain ⟨k, hk⟩ : ∃ k, (L - p).toNat = k := ⟨_, rfl⟩
      rw [hk] at hK
      by_cases hkl : k ≤ m.log2
      · have h5 := rnd_bd (k := k) h0 hkl
        rw [hK] at h5
        constructor
        · have : m.log2 - k + 1 = w := by omega
          rw [this] at h5; exact h5.2
        · intro hLe
          have : m.log2 - k = 23 := by omega
          rw [this, c23] at h5
          exact ⟨h5.1, by omega⟩
      · have hlt : m < 2 ^ (m.log2 + 1) := Nat.lt_log2_self
        have h6 : 2 ^ (m.log2 + 1) ≤ 2 ^ k := Nat.pow_le_pow_right (by decide) (by omega)
        have h7 : K ≤ 1 := by
          rw [← hK]
          unfold rnd
          rw [Nat.div_eq_of_lt (by omega)]
          split <;> omega
        have := Nat.two_pow_pos w
        exact ⟨by omega, fun hLe => by omega⟩
  have hw24 : w ≤ 24 := by omega
  have h2w : 2 ^ w ≤ 16777216 := by rw [← c24]; exact Nat.pow_le_pow_right (by decide) hw24
  have hub : u ≤ 246 := by omega
  rw [Nat.min_eq_left (by omega)] at hnr
  rw [hnr]
  have hrd := word_read neg (R := u * 8388608 + K) (by omega)
  by_cases hn : L = E - 23
  · obtain ⟨k1, k2⟩ := hKb.2 hn
    rw [if_neg (by omega)] at hrd
    refine ⟨_, _, _, hrd, .inr ?_⟩
    have hm8 : (8388608 + (u * 8388608 + K) % 8388608).log2 ≤ 23 := by
      refine Nat.le_of_lt_succ ((Nat.log2_lt (by omega)).2 ?_)
      show _ < 2 ^ 24
      rw [c24]; omega
    omega
  · have hL2 : L = -149 := by omega
    have hu0 : u = 0 := by omega
    subst hu0
    rw [Nat.zero_mul, Nat.zero_add] at hrd ⊢
    have hw23 : w ≤ 23 := by omega
    have h2w3 : 2 ^ w ≤ 8388608 := by rw [← c23]; exact Nat.pow_le_pow_right (by decide) hw23
    by_cases hs : K < 8388608
    · rw [if_pos hs] at hrd
      refine ⟨_, _, _, hrd, ?_⟩
      by_cases hz : K = 0
      · exact .inl hz
      · right
        have h9 := log_le hz hKb.1
        clear hKb h2w h2w3
        omega
    · rw [if_neg hs] at hrd
      refine ⟨_, _, _, hrd, .inr ?_⟩
      have hK23 : K = 8388608 := by omega
      subst hK23
      have hl : (8388608 + 8388608 % 8388608).log2 = 23 := by decide +kernel
      rw [hl]
      have : w = 23 := by
        rcases Nat.lt_or_ge w 23 with h | h
        · have : 2 ^ w ≤ 2 ^ 22 := Nat.pow_le_pow_right (by decide) (by omega)
          have c22 : (2 : Nat) ^ 22 = 4194304 := by decide
          omega
        · omega
      omega
theorem zero_fb (neg : Bool) {B : Int} : fb (Ieee.single.word neg 0) B := ⟨neg, 0, -149, (word_read neg (R := 0) (by omega)).trans (if_pos (by omega)), .inl rfl⟩
theorem near_fb0 (neg : Bool) {m : Nat} {p B : Int} (hB2 : -148 ≤ B) (hB3 : B ≤ 122) (h : m = 0 ∨ p + (m.log2 : Int) + 2 ≤ B) : fb (Ieee.single.nearest neg m p) B := by
  by_cases h0 : m = 0
  · have e : Ieee.single.nearest neg m p = Ieee.single.word neg 0 := if_pos h0
    rw [e]; exact zero_fb neg
  · have h1 := h.resolve_left h0
    exact near_fb neg h0 rfl (by omega) h1 hB2
/-- a product of what is not too great -/
theorem fb_mul {x y : Nat} {A B : Int} (hx : fb x A) (hy : fb y B) (hC : A + B + 2 ≤ 122) (hC2 : -148 ≤ A + B + 2) :
    ∃ r, fop .mul x y = some r ∧ fb r (A + B + 2) ∧ ∃ X Y Z, floatToFloatBits .f32 x .f64 = some X ∧ floatToFloatBits .f32 y .f64 = some Y ∧ Ieee.double.mul X Y = some Z ∧ floatToFloatBits .f64 Z .f32 = some r := by
  obtain ⟨s, m, i, hx1, hx2⟩ := hx
  obtain ⟨t, n, j, hy1, hy2⟩ := hy
  have hm : fop .mul x y = some (Ieee.single.nearest (s ^^ t) (m * n) (i + j)) := by
    show Ieee.single.mul x y = _
    unfold Ieee.Format.mul
    rw [hx1, hy1]; rfl
  have hr : fb (Ieee.single.nearest (s ^^ t) (m * n) (i + j)) (A + B + 2) := by
    refine near_fb0 _ hC2 hC ?_
    by_cases h0 : m * n = 0
    · exact .inl h0
    · right
      have hm0 : m ≠ 0 := fun h => h0 (by rw [h, Nat.zero_mul])
      have hn0 : n ≠ 0 := fun h => h0 (by rw [h, Nat.mul_zero])
      have h1 : m < 2 ^ (m.log2 + 1) := Nat.lt_log2_self
      have h2 : n < 2 ^ (n.log2 + 1) := Nat.lt_log2_self
      have h3 : m * n < 2 ^ (m.log2 + 1 + (n.log2 + 1)) := by rw [Nat.pow_add]; exact Nat.mul_lt_mul'' h1 h2
      have h4 : (m * n).log2 < m.log2 + 1 + (n.log2 + 1) := (Nat.log2_lt h0).2 h3
      have a1 := hx2.resolve_left hm0
      have a2 := hy2.resolve_left hn0
      omega
  exact ⟨_, hm, hr, mul_double hx1 hy1 hm (fb_fin hr)⟩
/-- a sum of two data -/
theorem fb_sum {s t : Bool} {m n : Nat} {i j : Int} {B : Int} (hm : m ≤ 16777215) (hn : n ≤ 16777215) (hi : -149 ≤ i) (hj : -149 ≤ j) (h1 : m = 0 ∨ i + (m.log2 : Int) < B) (h2 : n = 0 ∨ j + (n.log2 : Int) < B) (hB : B ≤ 119) (hB2 : -148 ≤ B + 3) :
    ∃ r, ((Ieee.Datum.number s m i).sum (.number t n j)).map Ieee.single.write = some r ∧ fb r (B + 3) := by
  by_cases h0 : val64 s m i + val64 t n j = 0
  · exact ⟨_, sum_zero Ieee.single (by omega) (by omega) h0, zero_fb _⟩
  · refine ⟨_, sum_write Ieee.single (by omega) (by omega) h0, ?_⟩
    have hT := sum_T (s := s) (t := t) (m := m) (n := n) (a := (i + 1074).toNat) (b := (j + 1074).toNat)
    have hTe : Ieee.signed s m (i + 1074).toNat + Ieee.signed t n (j + 1074).toNat = val64 s m i + val64 t n j := rfl
    rw [hTe] at hT
    obtain ⟨T, hTv⟩ : ∃ T, (val64 s m i + val64 t n j).natAbs = T := ⟨_, rfl⟩
    have hT0 : T ≠ 0 := by omega
    rw [hTv] at hT ⊢
    refine near_fb0 _ hB2 (by omega) (.inr ?_)
    obtain ⟨c, hc⟩ : ∃ c : Nat, (B + 1074).toNat = c := ⟨_, rfl⟩
    have key : ∀ (k : Nat) (q : Int), -149 ≤ q → (k = 0 ∨ q + (k.log2 : Int) < B) → k * 2 ^ (q + 1074).toNat ≤ 2 ^ c := by
      intro k q hq h
      by_cases hk : k = 0
      · subst hk; rw [Nat.zero_mul]; exact Nat.zero_le _
      · have h3 := h.resolve_left hk
        have h4 : k < 2 ^ (k.log2 + 1) := Nat.lt_log2_self
        have h5 : k * 2 ^ (q + 1074).toNat ≤ 2 ^ (k.log2 + 1) * 2 ^ (q + 1074).toNat := Nat.mul_le_mul_right _ (Nat.le_of_lt h4)
        rw [← Nat.pow_add] at h5
        exact Nat.le_trans h5 (Nat.pow_le_pow_right (by decide) (by omega))
    have k1 := key m i hi h1
    have k2 := key n j hj h2
    have h6 : T < 2 ^ (c + 2) := by
      have h7 : 2 ^ (c + 2) = 4 * 2 ^ c := by rw [Nat.pow_add, Nat.mul_comm]
      have h8 := Nat.two_pow_pos c
      omega
    have h9 : T.log2 < c + 2 := (Nat.log2_lt hT0).2 h6
    omega
theorem fb_add {x y : Nat} {B : Int} (hx : fb x B) (hy : fb y B) (hB : B ≤ 119) (hB2 : -148 ≤ B + 3) :
    ∃ r, fop .add x y = some r ∧ fb r (B + 3) ∧ ∃ X Y Z, floatToFloatBits .f32 x .f64 = some X ∧ floatToFloatBits .f32 y .f64 = some Y ∧ Ieee.double.add X Y = some Z ∧ floatToFloatBits .f64 Z .f32 = some r := by
  obtain ⟨s, m, i, hx1, hx2⟩ := hx
  obtain ⟨t, n, j, hy1, hy2⟩ := hy
  have bx := num_bd hx1
  have bY := num_bd hy1
  obtain ⟨r, h1, h2⟩ := fb_sum (s := s) (t := t) bx.1 bY.1 bx.2.2 bY.2.2 hx2 hy2 hB hB2
  have h3 : fop .add x y = some r := by
    show Ieee.single.add x y = _
    unfold Ieee.Format.add
    rw [hx1, hy1]; exact h1
  exact ⟨r, h3, h2, add_double hx1 hy1 h3 (fb_fin h2)⟩
theorem fb_sub {x y : Nat} {B : Int} (hx : fb x B) (hy : fb y B) (hB : B ≤ 119) (hB2 : -148 ≤ B + 3) :
    ∃ r, fop .sub x y = some r ∧ fb r (B + 3) ∧ ∃ X Y Z, floatToFloatBits .f32 x .f64 = some X ∧ floatToFloatBits .f32 y .f64 = some Y ∧ Ieee.double.sub X Y = some Z ∧ floatToFloatBits .f64 Z .f32 = some r := by
  obtain ⟨s, m, i, hx1, hx2⟩ := hx
  obtain ⟨t, n, j, hy1, hy2⟩ := hy
  have bx := num_bd hx1
  have bY := num_bd hy1
  obtain ⟨r, h1, h2⟩ := fb_sum (s := s) (t := !t) bx.1 bY.1 bx.2.2 bY.2.2 hx2 hy2 hB hB2
  have h3 : fop .sub x y = some r := by
    show Ieee.single.sub x y = _
    unfold Ieee.Format.sub
    rw [hx1, hy1]; exact h1
  exact ⟨r, h3, h2, sub_double hx1 hy1 h3 (fb_fin h2)⟩
end Go.Proofs.Ytapcgokcfmklbaa

namespace Go.Proofs.Ytapcgokcfmklbaa
open Go Go.RowKit

/-- a whole number of at most 24 bits, as a single -/
theorem cv_whole {n : Int} (h : n.natAbs ≤ 16777215) : ∃ m i, Ieee.single.read (cvF n) = .number (decide (n < 0)) m i ∧ (n = 0 → m = 0) ∧ (n ≠ 0 → m ≠ 0 ∧ i + (m.log2 : Int) = (n.natAbs.log2 : Int)) := by
  have e : cvF n = Ieee.single.nearest (decide (n < 0)) n.natAbs 0 := rfl
  rw [e]
  by_cases h0 : n = 0
  · subst h0
    exact ⟨0, -149, by decide +kernel, fun _ => rfl, fun h => absurd rfl h⟩
  · have ha : n.natAbs ≠ 0 := by omega
    have hl := single_log ha h
    have g1 : Ieee.single.fractionBits = 23 := rfl
    have g2 : Ieee.single.leastPlace = -149 := by decide
    have g3 : Ieee.single.binade = 8388608 := by decide
    have g4 : Ieee.single.infRung = 2139095040 := by decide
    have c23 : (2 : Nat) ^ 23 = 8388608 := by decide
    have c24 : (2 : Nat) ^ (23 + 1) = 16777216 := by decide
    have hnr := nearest_rnd Ieee.single (decide (n < 0)) ha (p := 0) (L := (n.natAbs.log2 : Int) - 23) (by rw [g1, g2]; omega)
    obtain ⟨k, hk⟩ : ∃ k, 23 - n.natAbs.log2 = k := ⟨_, rfl⟩
    have q1 : (0 - ((n.natAbs.log2 : Int) - 23)).toNat = k := by omega
    have q2 : ((n.natAbs.log2 : Int) - 23 - 0).toNat = 0 := by omega
    rw [q1, q2, rnd_zero, g2, g3, g4] at hnr
    have hlog : (n.natAbs * 2 ^ k).log2 = 23 := by rw [log2_up ha]; omega
    obtain ⟨K, hK⟩ : ∃ K, n.natAbs * 2 ^ k = K := ⟨_, rfl⟩
    rw [hK] at hnr hlog
    have hK0 : K ≠ 0 := by rw [← hK]; exact Nat.mul_ne_zero ha (Nat.ne_of_gt (Nat.two_pow_pos _))
    have h1 := Nat.log2_self_le hK0
    have h2 : K < 2 ^ (K.log2 + 1) := Nat.lt_log2_self
    rw [hlog, c23] at h1
    rw [hlog, c24] at h2
    obtain ⟨u, hu⟩ : ∃ u : Nat, ((n.natAbs.log2 : Int) - 23 - -149).toNat = u := ⟨_, rfl⟩
    have hub : u ≤ 149 := by omega
    rw [hu, Nat.min_eq_left (by omega)] at hnr
    have hrd := word_read (decide (n < 0)) (R := u * 8388608 + K) (by omega)
    rw [if_neg (by omega)] at hrd
    rw [hnr]
    have e1 : 8388608 + (u * 8388608 + K) % 8388608 = K := by omega
    have e2 : (u * 8388608 + K) / 8388608 - 1 = u := by omega
    rw [e1, e2] at hrd
    exact ⟨_, _, hrd, fun h => absurd h h0, fun _ => ⟨hK0, by rw [hlog]; omega⟩⟩
theorem cv_fb {n : Int} (h : n.natAbs ≤ 16777215) : fb (cvF n) 24 := by
  obtain ⟨m, i, h1, h2, h3⟩ := cv_whole h
  refine ⟨_, m, i, h1, ?_⟩
  by_cases h0 : n = 0
  · exact .inl (h2 h0)
  · have := (h3 h0).2
    have hl := single_log (m := n.natAbs) (by omega) h
    exact .inr (by omega)
end Go.Proofs.Ytapcgokcfmklbaa

namespace Go.Proofs.Ytapcgokcfmklbaa
open Go Go.ChangeShapes Go.WideShapes Go.RowKit

/-- points in memory -/
def psC : List (Int × Int) → List Value
  | [] => []
  | p :: l => iv p.1 :: iv p.2 :: psC l
theorem psC_len : ∀ l, (psC l).length = 2 * l.length
  | [] => rfl
  | p :: l => by simp only [psC, List.length_cons, psC_len l]; omega
theorem psC_at : ∀ {l : List (Int × Int)} {i j : Nat}, i < l.length → j < 2 → (psC l)[2 * i + j]? = ([iv (l.getD i (0, 0)).1, iv (l.getD i (0, 0)).2] : List Value)[j]?
  | [], i, _, h, _ => absurd h (Nat.not_lt_zero _)
  | p :: l, 0, j, _, hj => by
    match j, hj with
    | 0, _ => rfl
    | 1, _ => rfl
  | p :: l, i + 1, j, h, hj => by
    show (iv p.1 :: iv p.2 :: psC l)[2 * (i + 1) + j]? = _
    rw [show 2 * (i + 1) + j = 2 * i + j + 1 + 1 by omega, List.getElem?_cons_succ, List.getElem?_cons_succ, psC_at (by simpa using h) hj]
    rfl
def PS (w : World) (A : Option Addr) (l : List (Int × Int)) : Prop :=
  0 < l.length → ∃ b o, A = some ⟨b, o, none⟩ ∧ ∀ i, i < l.length → ∀ j v, ([iv (l.getD i (0, 0)).1, iv (l.getD i (0, 0)).2] : List Value)[j]? = some v → w.cell? ((⟨b, o + i * 2, none⟩ : Addr).add j) = some v
theorem PS.own {W w : World} {H : HL} {A : Option Addr} {l : List (Int × Int)} (h : PS W A l) (ho : Own W w H) : PS w A l := fun h0 => by
  obtain ⟨b, o, h1, h2⟩ := h h0
  exact ⟨b, o, h1, fun i hi j v hj => ho.old (h2 i hi j v hj)⟩
theorem PS.blk {W w : World} {H : HL} {g t : Nat} {l : List (Int × Int)} {junk : List Value} (ho : Own W w H) (hm : (⟨g, t, psC l ++ junk⟩ : B) ∈ H) : PS w (some ⟨g, 0, none⟩) l := fun _ => by
  refine ⟨g, 0, rfl, fun i hi j v hj => ?_⟩
  have hj2 : j < 2 := (List.getElem?_eq_some_iff.1 hj).1
  have hb := ho.blk _ hm
  rw [addr_add, hb.2.cell]
  show (psC l ++ junk)[0 + i * 2 + j]? = _
  rw [List.getElem?_append_left (by rw [psC_len]; omega), show 0 + i * 2 + j = 2 * i + j by omega, psC_at hi hj2]
  exact hj
structure Win where
  kind : Int
  x : Nat
  y : Nat
  w : Nat
  h : Nat
  soft : Nat
  pts : List (Int × Int)
  out : Bool
deriving DecidableEq, Inhabited
def winC (v : Win) (A : Option Addr) (c : Nat) : List Value := [iv v.kind, flt v.x, flt v.y, flt v.w, flt v.h, flt v.soft, .slice A v.pts.length c, .bool v.out]
structure KF where
  frame : Int
  ease : Int
  win : Win
  A : Option Addr
  c : Nat
deriving Inhabited
def kfC (k : KF) : List Value := iv k.frame :: iv k.ease :: winC k.win k.A k.c
/-- a window's numbers are singles, its points lie in memory -/
def okWin (W : World) (v : Win) (A : Option Addr) : Prop := PS W A v.pts ∧ v.pts.length ≤ maxLen
def KS (w : World) (A : Option Addr) (l : List KF) : Prop :=
  0 < l.length → ∃ b o, A = some ⟨b, o, none⟩ ∧ ∀ i k, l[i]? = some k → (∀ j v, (kfC k)[j]? = some v → w.cell? ⟨b, o + i * 10 + j, none⟩ = some v) ∧ okWin w k.win k.A
theorem KS.own {W w : World} {H : HL} {A : Option Addr} {l : List KF} (h : KS W A l) (ho : Own W w H) : KS w A l := fun h0 => by
  obtain ⟨b, o, h1, h2⟩ := h h0
  exact ⟨b, o, h1, fun i k hk => ⟨fun j v hj => ho.old ((h2 i k hk).1 j v hj), (h2 i k hk).2.1.own ho, (h2 i k hk).2.2⟩⟩
theorem KS.at_ {w : World} {A : Option Addr} {l : List KF} (h : KS w A l) {i : Nat} (hi : i < l.length) : ∃ b o, A = some ⟨b, o, none⟩ ∧ (∀ j v, (kfC (l.getD i default))[j]? = some v → w.cell? ((⟨b, o + i * 10, none⟩ : Addr).add j) = some v) ∧ okWin w (l.getD i default).win (l.getD i default).A := by
  obtain ⟨b, o, h1, h2⟩ := h (by omega)
  have h3 : l[i]? = some (l.getD i default) := by rw [List.getD_eq_getElem?_getD, List.getElem?_eq_getElem hi]; rfl
  refine ⟨b, o, h1, fun j v hj => ?_, (h2 i _ h3).2⟩
  rw [addr_add]
  exact (h2 i _ h3).1 j v hj
section
variable {H : Type} {enc : TypeId × Value → H} {P : Program} {w : World} {base : Nat} {spare : Nat → Bool} {held : Bool}
theorem Leaf.points {l e t1 t2 : TypeId} {c : Value} {d : Nat} (ht : P.underlying l = some (.slice e)) (hl : leaves P d e = some [t1, t2]) (hc : P.cellsOf e = 2) (h1 : P.underlying t1 = some (.int .i64)) (h2 : P.underlying t2 = some (.int .i64)) (h : Leaf enc P w base spare held l c) :
    ∃ (A : Option Addr) (cap : Nat) (xs : List (Int × Int)), c = .slice A xs.length cap ∧ xs.length ≤ cap ∧ cap ≤ maxLen ∧ PS w A xs := by
  obtain ⟨A, n, cap, C, rfl, k1, k2, hC⟩ := h.sliceN ht hl hc
  have key : ∀ i, i < n → ∃ x : Int × Int, ∃ a, A = some a ∧ ∀ j v, ([iv x.1, iv x.2] : List Value)[j]? = some v → w.cell? (a.add (i * 2 + j)) = some v := fun i hi => by
    obtain ⟨a, q1, q2, q3⟩ := hC i hi
    obtain ⟨c0, r0, e0, l0, a0⟩ := q2.cons_inv
    obtain ⟨c1, r1, rfl, l1, a1⟩ := a0.cons_inv
    obtain rfl := a1.nil_inv
    obtain ⟨x0, rfl, _⟩ := l0.int h1
    obtain ⟨x1, rfl, _⟩ := l1.int h2
    exact ⟨(x0, x1), a, q1, fun j v hj => q3 j v (by rw [e0]; exact hj)⟩
  obtain ⟨F, hF⟩ := Go.Deep.choose_lt (α := Int × Int) (n := n) (p := fun i x => ∃ a, A = some a ∧ ∀ j v, ([iv x.1, iv x.2] : List Value)[j]? = some v → w.cell? (a.add (i * 2 + j)) = some v) key
  have hlen : ((List.range n).map F).length = n := by simp
  refine ⟨A, cap, (List.range n).map F, by rw [hlen], by rw [hlen]; exact k1, k2, fun hp => ?_⟩
  simp at hp
  obtain ⟨⟨b, o, sp⟩, rfl, q⟩ := hF 0 hp
  have q0 := q 0 (iv (F 0).1) rfl
  have hsp : sp = none := by simpa [Addr.add] using World.cell?_spot q0
  subst hsp
  refine ⟨b, o, rfl, fun i hi j v hj => ?_⟩
  have hl : i < n := by simpa using hi
  obtain ⟨a, q1, q2⟩ := hF i hl
  cases q1
  have e : ((List.range n).map F).getD i (0, 0) = F i := by simp [List.getD, hl]
  rw [e] at hj
  have q3 := q2 j v hj
  rw [addr_add] at q3 ⊢
  rw [Nat.add_assoc]
  exact q3
end
end Go.Proofs.Ytapcgokcfmklbaa

namespace Go.Proofs.Ytapcgokcfmklbaa
open Go Go.Proofs Go.RowKit

theorem ty31 : tyChk Try.prog 31 = some ([.int .i64 0, .int .i64 0], true, 16) := by kernel_rfl
theorem fo31_0 : fldOff Try.prog 31 0 = some (0, 3) := by kernel_rfl
theorem fo31_1 : fldOff Try.prog 31 1 = some (1, 3) := by kernel_rfl
theorem ok85 : callOK Try.prog 85 = true := by kernel_rfl
theorem ok129 : callOK Try.prog 129 = true := by kernel_rfl
theorem ok150 : callOK Try.prog 150 = true := by kernel_rfl

def outF (v lo hi : Nat) : Bool := fcmpB .lss v lo || fcmpB .gtr v hi
def inF (v lo hi : Nat) : Bool := fcmpB .geq v lo && fcmpB .leq v hi
def plcB (n : Int) : Bool := decide (-1048576 ≤ n) && decide (n ≤ 1048576)
def farP (p : Int × Int) : Bool := !plcB p.1 || !plcB p.2
def anyF (l : List (Int × Int)) : Bool := l.any farP
theorem anyF_T {l : List (Int × Int)} {k : Nat} (hk : k < l.length) (h : farP (l.getD k (0, 0)) = true) : anyF l = true := by
  unfold anyF
  rw [List.any_eq_true]
  refine ⟨_, ?_, h⟩
  rw [List.getD_eq_getElem?_getD, List.getElem?_eq_getElem hk]; exact List.getElem_mem _
theorem anyF_F {l : List (Int × Int)} (h : ∀ i, i < l.length → farP (l.getD i (0, 0)) = false) : anyF l = false := by
  unfold anyF
  rw [List.any_eq_false]
  intro p hp
  obtain ⟨i, hi, rfl⟩ := List.getElem_of_mem hp
  have := h i hi
  rw [List.getD_eq_getElem?_getD, List.getElem?_eq_getElem hi] at this
  simpa using this

theorem or_a {x y : Bool} (h : x = true) : true = (x || y) := by rw [h]; rfl
theorem or_b {x y : Bool} (h : x = false) : y = (x || y) := by rw [h]; rfl
set_option maxRecDepth 100000 in
theorem outW1 (q lo hi : Nat) (W : World) : Fn_ Try.prog 127 #[flt q, flt lo, flt hi] W (fun v H => v = .bool (outF q lo hi) ∧ H = []) := by
  refine Fn_.intro Try.func127 rfl rfl (by rfl) ?_
  refine CS.seq ?_
  refine CS.region ?_
  refine RS.q rfl (QO.assign) ?_
  refine RS.nil ?_
  refine thenC_n ?_
  refine CS.seq ?_
  refine CS.region ?_
  refine RS.q rfl (QO.move) ?_
  refine RS.q rfl (QO.move) ?_
  refine RS.q rfl (QO.fcmp32 (by rfl) (by rfl) (by simp)) ?_
  refine RS.q rfl (QO.move) ?_
  refine RS.split (dj := 10) (by rfl) (fun hb0 => ?_) (fun hb0 => ?_)
  · refine RS.off (dj := 10) rfl (.inl (congrArg Value.bool hb0)) (fun _ => rfl) rfl ?_
    refine RS.off (dj := 10) rfl (.inl (congrArg Value.bool hb0)) (fun _ => rfl) rfl ?_
    refine RS.off (dj := 10) rfl (.inl (congrArg Value.bool hb0)) (fun _ => rfl) rfl ?_
    refine RS.q rfl (QO.pickT (by rfl) hb0 (by rfl)) ?_
    refine RS.q rfl (QO.assign) ?_
    refine RS.nil ?_
    refine thenC_n ?_
    refine CS.ret ?_
    refine retQ.mk (H' := []) (.inr rfl) (RVs.tmp (by rfl) RVs.nil) (List.nil_sublist _) ?_
    first | exact ⟨congrArg Value.bool (or_a (by assumption)), rfl⟩ | exact ⟨congrArg Value.bool (or_b (by assumption)), rfl⟩
  · refine RS.on (dj := 10) rfl (congrArg Value.bool hb0) ?_
    refine RS.q rfl (QO.move) ?_
    refine RS.on (dj := 10) rfl (congrArg Value.bool hb0) ?_
    refine RS.q rfl (QO.move) ?_
    refine RS.on (dj := 10) rfl (congrArg Value.bool hb0) ?_
    refine RS.q rfl (QO.fcmp32 (by rfl) (by rfl) (by simp)) ?_
    refine RS.q rfl (QO.pickF (by rfl) hb0 (by rfl)) ?_
    refine RS.q rfl (QO.assign) ?_
    refine RS.nil ?_
    refine thenC_n ?_
    refine CS.ret ?_
    refine retQ.mk (H' := []) (.inr rfl) (RVs.tmp (by rfl) RVs.nil) (List.nil_sublist _) ?_
    first | exact ⟨congrArg Value.bool (or_a (by assumption)), rfl⟩ | exact ⟨congrArg Value.bool (or_b (by assumption)), rfl⟩

set_option maxRecDepth 100000 in
theorem placed (n : Int) (W : World) : Fn_ Try.prog 85 #[iv n] W (fun v H => v = .bool (plcB n) ∧ H = []) := by
  refine Fn_.intro Try.func85 rfl rfl (by rfl) ?_
  refine CS.seq ?_
  refine CS.region ?_
  refine RS.q rfl (QO.assign) ?_
  refine RS.nil ?_
  refine thenC_n ?_
  refine CS.seq ?_
  refine CS.region ?_
  refine RS.q rfl (QO.move) ?_
  refine RS.q rfl (QO.geq (by rfl) (by rfl)) ?_
  refine RS.q rfl (QO.move) ?_
  refine RS.split (dj := 5) (by rfl) (fun hb0 => ?_) (fun hb0 => ?_)
  · have hb0p := of_decide_eq_true hb0
    refine RS.on (dj := 5) rfl (congrArg Value.bool hb0) ?_
    refine RS.q rfl (QO.move) ?_
    refine RS.on (dj := 5) rfl (congrArg Value.bool hb0) ?_
    refine RS.q rfl (QO.leq (by rfl) (by rfl)) ?_
    refine RS.q rfl (QO.pickT (by rfl) hb0 (by rfl)) ?_
    refine RS.q rfl (QO.assign) ?_
    refine RS.nil ?_
    refine thenC_n ?_
    refine CS.ret ?_
    refine retQ.mk (H' := []) (.inr rfl) (RVs.tmp (by rfl) RVs.nil) (List.nil_sublist _) ?_
    refine ⟨congrArg Value.bool ?_, rfl⟩
    unfold plcB
    first | (simp_all; done) | (simp_all; omega)
  · have hb0p := of_decide_eq_false hb0
    refine RS.off (dj := 5) rfl (.inl (congrArg Value.bool hb0)) (fun _ => rfl) rfl ?_
    refine RS.off (dj := 5) rfl (.inl (congrArg Value.bool hb0)) (fun _ => rfl) rfl ?_
    refine RS.q rfl (QO.pickF (by rfl) hb0 (by rfl)) ?_
    refine RS.q rfl (QO.assign) ?_
    refine RS.nil ?_
    refine thenC_n ?_
    refine CS.ret ?_
    refine retQ.mk (H' := []) (.inr rfl) (RVs.tmp (by rfl) RVs.nil) (List.nil_sublist _) ?_
    refine ⟨congrArg Value.bool ?_, rfl⟩
    unfold plcB
    first | (simp_all; done) | (simp_all; omega)

set_option maxRecDepth 100000 in
theorem farP1 (p : Int × Int) (W : World) : Fn_ Try.prog 129 #[.agg #[iv p.1, iv p.2]] W (fun v H => v = .bool (farP p) ∧ H = []) := by
  refine Fn_.intro Try.func129 rfl rfl (by rfl) ?_
  refine CS.seq ?_
  refine CS.region ?_
  refine RS.box rfl (by rfl) (by rfl) ?_
  intro g1
  refine RS.q rfl (QO.assign) ?_
  refine RS.nil ?_
  refine thenC_n ?_
  refine CS.seq ?_
  refine CS.region ?_
  refine RS.q rfl (QO.fieldAddr fo31_0 (by rfl)) ?_
  first | (refine RS.q rfl (QO.load ty3 (by rfl) (by repeat (first | exact List.Mem.head _ | refine List.Mem.tail _ ?_)) (by rfl)) ?_) | (refine RS.q rfl (QO.loadO ty3 (by rfl) (by assumption)) ?_) | (refine RS.q rfl (QO.load ty3 (by rfl) (by repeat (first | exact List.Mem.head _ | refine List.Mem.tail _ ?_)) (by assumption)) ?_)
  refine RS.call rfl (by rfl) ok85 (by rfl) (fun w ho => placed p.1 _) ?_
  rintro _ _ ⟨rfl, rfl⟩
  refine RS.q rfl (QO.not (by rfl)) ?_
  refine RS.q rfl (QO.move) ?_
  refine RS.split (dj := 7) (by rfl) (fun hb0 => ?_) (fun hb0 => ?_)
  · have hb0p := Eq.mp (Bool.not_eq_true' _) hb0
    refine RS.off (dj := 7) rfl (.inl (congrArg Value.bool hb0)) (fun _ => rfl) rfl ?_
    refine RS.off (dj := 7) rfl (.inl (congrArg Value.bool hb0)) (fun _ => rfl) rfl ?_
    refine RS.off (dj := 7) rfl (.inl (congrArg Value.bool hb0)) (fun _ => rfl) rfl ?_
    refine RS.off (dj := 7) rfl (.inl (congrArg Value.bool hb0)) (fun _ => rfl) rfl ?_
    refine RS.q rfl (QO.pickT (by rfl) hb0 (by rfl)) ?_
    refine RS.q rfl (QO.assign) ?_
    refine RS.nil ?_
    refine thenC_n ?_
    refine CS.ret ?_
    refine retQ.mk (H' := []) (.inr rfl) (RVs.tmp (by rfl) RVs.nil) (List.nil_sublist _) ?_
    refine ⟨congrArg Value.bool ?_, rfl⟩
    unfold farP
    simp_all
  · have hb0p := Eq.mp (Bool.not_eq_false' _) hb0
    refine RS.on (dj := 7) rfl (congrArg Value.bool hb0) ?_
    refine RS.q rfl (QO.fieldAddr fo31_1 (by rfl)) ?_
    refine RS.on (dj := 7) rfl (congrArg Value.bool hb0) ?_
    first | (refine RS.q rfl (QO.load ty3 (by rfl) (by repeat (first | exact List.Mem.head _ | refine List.Mem.tail _ ?_)) (by rfl)) ?_) | (refine RS.q rfl (QO.loadO ty3 (by rfl) (by assumption)) ?_) | (refine RS.q rfl (QO.load ty3 (by rfl) (by repeat (first | exact List.Mem.head _ | refine List.Mem.tail _ ?_)) (by assumption)) ?_)
    refine RS.on (dj := 7) rfl (congrArg Value.bool hb0) ?_
    refine RS.call rfl (by rfl) ok85 (by rfl) (fun w ho => placed p.2 _) ?_
    rintro _ _ ⟨rfl, rfl⟩
    refine RS.on (dj := 7) rfl (congrArg Value.bool hb0) ?_
    refine RS.q rfl (QO.not (by rfl)) ?_
    refine RS.q rfl (QO.pickF (by rfl) hb0 (by rfl)) ?_
    refine RS.q rfl (QO.assign) ?_
    refine RS.nil ?_
    refine thenC_n ?_
    refine CS.ret ?_
    refine retQ.mk (H' := []) (.inr rfl) (RVs.tmp (by rfl) RVs.nil) (List.nil_sublist _) ?_
    refine ⟨congrArg Value.bool ?_, rfl⟩
    unfold farP
    simp_all

set_option maxRecDepth 100000 in
theorem indexP (A : Option Addr) (c : Nat) (l : List (Int × Int)) (W : World) (hA : PS W A l) (hm : l.length ≤ maxLen) : Fn_ Try.prog 150 #[.slice A l.length c, .func (.func 129) #[] #[]] W (fun v H => ∃ q : Int, v = iv q ∧ decide (0 ≤ q) = anyF l ∧ H = []) := by
  unfold maxLen at hm
  refine Fn_.intro Try.func150 rfl rfl (by rfl) ?_
  refine CS.seq ?_
  refine CS.region ?_
  refine RS.q rfl (QO.assign) ?_
  refine RS.nil ?_
  refine thenC_n ?_
  refine CS.seq ?_
  refine CS.seq ?_
  refine CS.region ?_
  refine RS.q rfl (QO.move) ?_
  refine RS.q rfl (QO.lenS Try.underlying59 (by rfl)) ?_
  refine RS.q rfl (QO.move) ?_
  refine RS.nil ?_
  refine thenC_n ?_
  refine CS.block ?_
  refine CS.loop (X := Nat) (4 :: 5 :: 8 :: 9 :: 10 :: 11 :: 12 :: 13 :: 14 :: 15 :: 16 :: 17 :: 18 :: []) (fun k => [(8, iv (k : Int))]) (fun k => []) (fun k => k ≤ l.length ∧ ∀ i, i < k → farP (l.getD i (0, 0)) = false) (fun k => l.length - k) 0 ⟨Nat.zero_le _, fun i h => absurd h (Nat.not_lt_zero _)⟩ ?_ ?_ ?_
  · exact (by repeat (first | exact kn_nil | refine kn_cons (by rfl) ?_))
  · exact (by repeat (first | exact List.Sublist.refl _ | exact List.nil_sublist _ | refine List.Sublist.cons_cons _ ?_ | refine List.Sublist.cons _ ?_ | exact Sbp.refl | exact Sbp.nil | refine Sbp.cons (by repeat (first | exact Rem.head | apply Rem.tail)) ?_ | exact Sbp.app | refine Sbp.skip ?_))
  · intro k gj2 hz
    obtain ⟨hk, hno⟩ := hz
    refine CS.seq ?_
    refine CS.region ?_
    refine RS.q rfl (QO.lss (by rfl) (by rfl)) ?_
    refine RS.nil ?_
    refine thenC_n ?_
    refine CS.seq ?_
    refine CS.cond (by rfl) (fun hb0 => ?_) (fun hb0 => ?_)
    · have hb0p := of_decide_eq_true hb0
      refine CS.skip ?_
      refine thenC_n ?_
      refine CS.seq ?_
      refine CS.block ?_
      refine CS.seq ?_
      refine CS.region ?_
      refine RS.q rfl (QO.move) ?_
      refine RS.q rfl (QO.assign) ?_
      refine RS.nil ?_
      refine thenC_n ?_
      refine CS.seq ?_
      refine CS.region ?_
      refine RS.q rfl (QO.move) ?_
      have hx1 := hA (by omega)
      obtain ⟨bA, oA, e1, hc1⟩ := hx1
      subst e1
      have hd1 := hc1 k (by omega)
      refine RS.q rfl (QO.move) ?_
      refine RS.q rfl (QO.move) ?_
      refine RS.q rfl (QO.idx Try.underlying59 ty31 (by rfl) (by rfl) (by omega) (by omega)) ?_
      refine RS.q rfl (QO.loadOA ty31 (vs := [iv (l.getD k (0, 0)).1, iv (l.getD k (0, 0)).2]) (by rfl) hd1 (by rfl)) ?_
      refine RS.call rfl (by rfl) ok129 (by rfl) (fun w ho => farP1 (l.getD k (0, 0)) _) ?_
      rintro _ _ ⟨rfl, rfl⟩
      refine RS.nil ?_
      refine thenC_n ?_
      refine CS.cond (by rfl) (fun hb1 => ?_) (fun hb1 => ?_)
      · refine CS.seq ?_
        refine CS.region ?_
        refine RS.q rfl (QO.move) ?_
        refine RS.q rfl (QO.assign) ?_
        refine RS.nil ?_
        refine thenC_n ?_
        refine CS.ret ?_
        refine blockC_r ?_
        refine thenC_r ?_
        refine loopQ_r ?_
        refine blockC_r ?_
        refine thenC_r ?_
        refine retQ.mk (H' := []) (.inr rfl) (RVs.tmp (by rfl) RVs.nil) (List.nil_sublist _) ?_
        first | exact ⟨_, rfl, (decide_eq_true (by omega)).trans (anyF_T (k := k) (by omega) (by assumption)).symm, rfl⟩ | exact ⟨_, rfl, (decide_eq_false (by omega)).trans (anyF_F (fun i hi => hno i (by omega))).symm, rfl⟩
      · refine CS.skip ?_
        refine blockC_n ?_
        refine thenC_n ?_
        refine CS.region ?_
        first | (refine RS.q rfl (QO.add (by rfl) (by rfl) (by omega) (by omega)) ?_) | (refine RS.q rfl (QO.ibin (by rfl) (by rfl) trivial) ?_)
        refine RS.q rfl (QO.move) ?_
        refine RS.nil ?_
        refine loopQ_n (by intro t ht; repeat (first | with_reducible exact rfl | exact frame_puts ht (frame_mix ht) _ rfl | (refine frame_put rfl ht ?_) | (refine frame_puts ht ?_ _ rfl) | exact frame_mix ht | (refine frame_mix2 rfl ht ?_) | exact rfl)) ?_
        exact ⟨k + 1, ⟨by omega, fun i hi => by
            by_cases e : i = k
            · subst e; assumption
            · exact hno i (by omega)⟩, by omega, (by repeat (first | exact kn_nil | refine kn_cons (by rfl) ?_)), (by repeat (first | exact List.Sublist.refl _ | exact List.nil_sublist _ | refine List.Sublist.cons_cons _ ?_ | refine List.Sublist.cons _ ?_ | exact Sbp.refl | exact Sbp.nil | refine Sbp.cons (by repeat (first | exact Rem.head | apply Rem.tail)) ?_ | exact Sbp.app | refine Sbp.skip ?_))⟩
    · have hb0p := of_decide_eq_false hb0
      refine CS.exit ?_
      refine thenC_x ?_
      refine loopQ_x ?_
      refine blockC_x ?_
      refine thenC_n ?_
      refine CS.seq ?_
      refine CS.region ?_
      refine RS.q rfl (QO.assign) ?_
      refine RS.nil ?_
      refine thenC_n ?_
      refine CS.ret ?_
      refine retQ.mk (H' := []) (.inr rfl) (RVs.tmp (by rfl) RVs.nil) (List.nil_sublist _) ?_
      first | exact ⟨_, rfl, (decide_eq_true (by omega)).trans (anyF_T (k := k) (by omega) (by assumption)).symm, rfl⟩ | exact ⟨_, rfl, (decide_eq_false (by omega)).trans (anyF_F (fun i hi => hno i (by omega))).symm, rfl⟩

set_option maxRecDepth 100000 in
theorem containsP (A : Option Addr) (c : Nat) (l : List (Int × Int)) (W : World) (hA : PS W A l) (hm : l.length ≤ maxLen) : Fn_ Try.prog 123 #[.slice A l.length c, .func (.func 129) #[] #[]] W (fun v H => v = .bool (anyF l) ∧ H = []) := by
  refine Fn_.intro Try.func123 rfl rfl (by rfl) ?_
  refine CS.seq ?_
  refine CS.region ?_
  refine RS.q rfl (QO.assign) ?_
  refine RS.nil ?_
  refine thenC_n ?_
  refine CS.seq ?_
  refine CS.region ?_
  refine RS.q rfl (QO.move) ?_
  refine RS.q rfl (QO.move) ?_
  refine RS.call rfl (by rfl) ok150 (by rfl) (fun w ho => indexP A c l _ (hA.own ho) hm) ?_
  rintro _ _ ⟨q, rfl, hq, rfl⟩
  refine RS.q rfl (QO.geq (by rfl) (by rfl)) ?_
  refine RS.q rfl (QO.assign) ?_
  refine RS.nil ?_
  refine thenC_n ?_
  refine CS.ret ?_
  refine retQ.mk (H' := []) (.inr rfl) (RVs.tmp (by rfl) RVs.nil) (List.nil_sublist _) ?_
  exact ⟨congrArg Value.bool hq, rfl⟩

end Go.Proofs.Ytapcgokcfmklbaa
