/-
  Part 2 of what the proof leans on (C1, C2, Eq, Pix, Num, Tile, Bands, Ops3, Str, Code, Ints, D1, Name, E1, Ev). Conditions: as each theorem says.
-/
import Derived.Test.YtapcgokcfmklbaaDoorY1
import Derived.Test.YtapcgokcfmklbaaDoorRows
import Derived.Laws.StructEq
import Derived.Lib.AppendStr
import Derived.Lib.UnsafeStr
import Derived.Laws.Strings
namespace Go.Proofs.YtapcgokcfmklbaaDoor
open Go Go.Proofs Go.RowKit

theorem ty3 : tyChk Tryd.prog 3 = some ([.int .i64 0], false, 8) := by kernel_rfl
theorem fo31_0 : fldOff Tryd.prog 31 0 = some (0, 3) := by kernel_rfl
theorem fo31_1 : fldOff Tryd.prog 31 1 = some (1, 3) := by kernel_rfl
theorem fo31_2 : fldOff Tryd.prog 31 2 = some (2, 3) := by kernel_rfl
theorem fo31_3 : fldOff Tryd.prog 31 3 = some (3, 3) := by kernel_rfl
theorem ok58 : callOK Tryd.prog 58 = true := by kernel_rfl
theorem ok75 : callOK Tryd.prog 75 = true := by kernel_rfl
theorem ok131 : callOK Tryd.prog 131 = true := by kernel_rfl
theorem ext132 (n : Int) (w : World) : (callFunc 132 [Value.int .u32 n].toArray).run Tryd.prog w = .ok (.value (.float .f32 n.toNat)) w := by kernel_rfl
theorem ext70 (n : Nat) (w : World) : (callFunc 70 [flt n].toArray).run Tryd.prog w = .ok (.value (.int .u32 n)) w := by kernel_rfl

set_option maxRecDepth 100000 in
theorem clean (v : Nat) (W : World) : Fn_ Tryd.prog 75 #[flt v] W (fun v_ H => v_ = flt (cl v) ∧ H = []) := by
  refine Fn_.intro Tryd.func75 rfl rfl (by rfl) ?_
  refine CS.seq ?_
  refine CS.region ?_
  refine RS.q rfl (QO.assign) ?_
  refine RS.nil ?_
  refine thenC_n ?_
  refine CS.seq ?_
  refine CS.seq ?_
  refine CS.region ?_
  refine RS.q rfl (QO.move) ?_
  refine RS.q rfl (QO.move) ?_
  refine RS.q rfl (QO.fcmp32 (by rfl) (by rfl) (by simp)) ?_
  refine RS.nil ?_
  refine thenC_n ?_
  refine CS.cond (by rfl) (fun hb0 => ?_) (fun hb0 => ?_)
  · refine CS.seq ?_
    refine CS.region ?_
    refine RS.q rfl (QO.ext (by rfl) (ext132 _)) ?_
    refine RS.q rfl (QO.assign) ?_
    refine RS.nil ?_
    refine thenC_n ?_
    refine CS.ret ?_
    refine thenC_r ?_
    refine retQ.mk (H' := []) (.inr rfl) (RVs.tmp (by rfl) RVs.nil) (List.nil_sublist _) ?_
    exact ⟨congrArg flt (cl_nan ((fneq_self _).symm.trans hb0)).symm, rfl⟩
  · refine CS.skip ?_
    refine thenC_n ?_
    refine CS.seq ?_
    refine CS.region ?_
    refine RS.q rfl (QO.move) ?_
    refine RS.q rfl (QO.assign) ?_
    refine RS.nil ?_
    refine thenC_n ?_
    refine CS.ret ?_
    refine retQ.mk (H' := []) (.inr rfl) (RVs.tmp (by rfl) RVs.nil) (List.nil_sublist _) ?_
    exact ⟨congrArg flt (cl_num ((fneq_self _).symm.trans hb0)).symm, rfl⟩

set_option maxRecDepth 100000 in
theorem bits (x : Nat) (W : World) : Fn_ Tryd.prog 58 #[flt x] W (fun v H => v = .int .u32 (cl x : Nat) ∧ H = []) := by
  refine Fn_.intro Tryd.func58 rfl rfl (by rfl) ?_
  refine CS.seq ?_
  refine CS.region ?_
  refine RS.q rfl (QO.assign) ?_
  refine RS.nil ?_
  refine thenC_n ?_
  refine CS.seq ?_
  refine CS.region ?_
  refine RS.q rfl (QO.move) ?_
  refine RS.call rfl (by rfl) ok75 (by rfl) (fun w ho => clean _ _) ?_
  rintro _ _ ⟨rfl, rfl⟩
  refine RS.q rfl (QO.ext (by rfl) (ext70 _)) ?_
  refine RS.q rfl (QO.assign) ?_
  refine RS.nil ?_
  refine thenC_n ?_
  refine CS.ret ?_
  refine retQ.mk (H' := []) (.inr rfl) (RVs.tmp (by rfl) RVs.nil) (List.nil_sublist _) ?_
  exact ⟨rfl, rfl⟩

set_option maxRecDepth 100000 in
theorem landed (W : World) : Fn_ Tryd.prog 11 #[] W (fun v H => v = .bool true ∧ H = []) := by
  refine Fn_.intro Tryd.func11 rfl rfl (by rfl) ?_
  refine CS.seq ?_
  refine CS.region ?_
  refine RS.q rfl (QO.assign) ?_
  refine RS.nil ?_
  refine thenC_n ?_
  refine CS.seq ?_
  refine CS.region ?_
  refine RS.call rfl (by rfl) ok58 (by rfl) (fun w ho => bits _ _) ?_
  rintro _ _ ⟨rfl, rfl⟩
  refine RS.q rfl (QO.eql (by rfl) (by rfl)) ?_
  refine RS.q rfl (QO.assign) ?_
  refine RS.nil ?_
  refine thenC_n ?_
  refine CS.ret ?_
  refine retQ.mk (H' := []) (.inr rfl) (RVs.tmp (by rfl) RVs.nil) (List.nil_sublist _) ?_
  exact ⟨congrArg Value.bool (by decide), rfl⟩

def outR (x s : Int) : Bool := decide (x < -1048576) || decide (1048576 - s < x)
def regErr (x y w h : Int) : Int :=
  if w < 1 ∨ 256 < w ∨ h < 1 ∨ 256 < h then 3 else if 16384 < w * h then 4 else if outR x w = true ∨ outR y h = true then 5 else 0
theorem regErr_ok {x y w h : Int} (e : regErr x y w h = 0) : 1 ≤ w ∧ w ≤ 256 ∧ 1 ≤ h ∧ h ≤ 256 ∧ 1 ≤ w * h ∧ w * h ≤ 16384 ∧ 4 * w * h = 4 * (w * h) ∧ -1048576 ≤ x ∧ x + w ≤ 1048576 ∧ -1048576 ≤ y ∧ y + h ≤ 1048576 := by
  unfold regErr at e
  split at e
  · cases e
  · split at e
    · cases e
    · split at e
      · cases e
      · rename_i h1 h2 h3
        have h4 : 1 * 1 ≤ w * h := Int.mul_le_mul (by omega) (by omega) (by omega) (by omega)
        have h5 : 4 * w * h = 4 * (w * h) := Int.mul_assoc ..
        simp only [outR, not_or, Bool.or_eq_true, decide_eq_true_eq] at h3
        omega
theorem mul_small {w h : Int} (h1 : ¬ w < 1) (h2 : ¬ 256 < w) (h3 : ¬ h < 1) (h4 : ¬ 256 < h) : 1 ≤ w * h ∧ w * h ≤ 65536 := by
  have h5 : 1 * 1 ≤ w * h := Int.mul_le_mul (by omega) (by omega) (by omega) (by omega)
  have h6 : w * h ≤ 256 * 256 := Int.mul_le_mul (by omega) (by omega) (by omega) (by omega)
  omega

set_option maxRecDepth 100000 in
theorem out1 (x s : Int) (W : World) (h : 0 ≤ s) (h2 : s ≤ 256) : Fn_ Tryd.prog 131 #[iv x, iv s] W (fun v H => v = .bool (outR x s) ∧ H = []) := by
  refine Fn_.intro Tryd.func131 rfl rfl (by rfl) ?_
  refine CS.seq ?_
  refine CS.region ?_
  refine RS.q rfl (QO.assign) ?_
  refine RS.nil ?_
  refine thenC_n ?_
  refine CS.seq ?_
  refine CS.region ?_
  refine RS.q rfl (QO.move) ?_
  refine RS.q rfl (QO.lss (by rfl) (by rfl)) ?_
  refine RS.q rfl (QO.move) ?_
  refine RS.split (dj := 7) (by rfl) (fun hb0 => ?_) (fun hb0 => ?_)
  · have hb0p := of_decide_eq_true hb0
    refine RS.off (dj := 7) rfl (.inl (congrArg Value.bool hb0)) (fun _ => rfl) rfl ?_
    refine RS.off (dj := 7) rfl (.inl (congrArg Value.bool hb0)) (fun _ => rfl) rfl ?_
    refine RS.off (dj := 7) rfl (.inl (congrArg Value.bool hb0)) (fun _ => rfl) rfl ?_
    refine RS.off (dj := 7) rfl (.inl (congrArg Value.bool hb0)) (fun _ => rfl) rfl ?_
    refine RS.q rfl (QO.pickT (by rfl) hb0 (by rfl)) ?_
    refine RS.q rfl (QO.assign) ?_
    refine RS.nil ?_
    refine thenC_n ?_
    refine CS.ret ?_
    refine retQ.mk (H' := []) (.inr rfl) (RVs.tmp (by rfl) RVs.nil) (List.nil_sublist _) ?_
    exact ⟨congrArg Value.bool (by first | (simp [outR]; done) | (simp [outR]; omega)), rfl⟩
  · have hb0p := of_decide_eq_false hb0
    refine RS.on (dj := 7) rfl (congrArg Value.bool hb0) ?_
    refine RS.q rfl (QO.move) ?_
    refine RS.on (dj := 7) rfl (congrArg Value.bool hb0) ?_
    refine RS.q rfl (QO.move) ?_
    refine RS.on (dj := 7) rfl (congrArg Value.bool hb0) ?_
    first | (refine RS.q rfl (QO.sub (by rfl) (by rfl) (by omega) (by omega)) ?_) | (refine RS.q rfl (QO.ibin (by rfl) (by rfl) trivial) ?_)
    refine RS.on (dj := 7) rfl (congrArg Value.bool hb0) ?_
    refine RS.q rfl (QO.gtr (by rfl) (by rfl)) ?_
    refine RS.q rfl (QO.pickF (by rfl) hb0 (by rfl)) ?_
    refine RS.q rfl (QO.assign) ?_
    refine RS.nil ?_
    refine thenC_n ?_
    refine CS.ret ?_
    refine retQ.mk (H' := []) (.inr rfl) (RVs.tmp (by rfl) RVs.nil) (List.nil_sublist _) ?_
    exact ⟨congrArg Value.bool (by first | (simp [outR]; done) | (simp [outR]; omega)), rfl⟩

set_option maxRecDepth 100000 in
theorem checkRegion (x y wi he : Int) (W : World) : Fn_ Tryd.prog 69 #[.agg #[iv x, iv y, iv wi, iv he]] W (fun v H => v = iv (regErr x y wi he) ∧ H = []) := by
  refine Fn_.intro Tryd.func69 rfl rfl (by rfl) ?_
  refine CS.seq ?_
  refine CS.region ?_
  refine RS.box rfl (by rfl) (by rfl) ?_
  intro g1
  refine RS.q rfl (QO.assign) ?_
  refine RS.nil ?_
  refine thenC_n ?_
  refine CS.seq ?_
  refine CS.region ?_
  refine RS.q rfl (QO.assign) ?_
  refine RS.nil ?_
  refine thenC_n ?_
  refine CS.seq ?_
  refine CS.block ?_
  refine CS.seq ?_
  refine CS.region ?_
  refine RS.q rfl (QO.fieldAddr fo31_2 (by rfl)) ?_
  first | (refine RS.q rfl (QO.load ty3 (by rfl) (by repeat (first | exact List.Mem.head _ | refine List.Mem.tail _ ?_)) (by rfl)) ?_) | (refine RS.q rfl (QO.loadO ty3 (by rfl) (by assumption)) ?_) | (refine RS.q rfl (QO.load ty3 (by rfl) (by repeat (first | exact List.Mem.head _ | refine List.Mem.tail _ ?_)) (by assumption)) ?_)
  refine RS.q rfl (QO.lss (by rfl) (by rfl)) ?_
  refine RS.q rfl (QO.move) ?_
  refine RS.split (dj := 8) (by rfl) (fun hb0 => ?_) (fun hb0 => ?_)
  · have hb0p := of_decide_eq_true hb0
    refine RS.off (dj := 8) rfl (.inl (congrArg Value.bool hb0)) (fun _ => rfl) rfl ?_
    refine RS.off (dj := 8) rfl (.inl (congrArg Value.bool hb0)) (fun _ => rfl) rfl ?_
    refine RS.off (dj := 8) rfl (.inl (congrArg Value.bool hb0)) (fun _ => rfl) rfl ?_
    refine RS.q rfl (QO.pickT (by rfl) hb0 (by rfl)) ?_
    refine RS.q rfl (QO.move) ?_
    refine RS.off (dj := 13) rfl (.inl (congrArg Value.bool rfl)) (fun _ => rfl) rfl ?_
    refine RS.off (dj := 13) rfl (.inl (congrArg Value.bool rfl)) (fun _ => rfl) rfl ?_
    refine RS.off (dj := 13) rfl (.inl (congrArg Value.bool rfl)) (fun _ => rfl) rfl ?_
    refine RS.q rfl (QO.pickT (by rfl) rfl (by rfl)) ?_
    refine RS.q rfl (QO.move) ?_
    refine RS.off (dj := 18) rfl (.inl (congrArg Value.bool rfl)) (fun _ => rfl) rfl ?_
    refine RS.off (dj := 18) rfl (.inl (congrArg Value.bool rfl)) (fun _ => rfl) rfl ?_
    refine RS.off (dj := 18) rfl (.inl (congrArg Value.bool rfl)) (fun _ => rfl) rfl ?_
    refine RS.q rfl (QO.pickT (by rfl) rfl (by rfl)) ?_
    refine RS.q rfl (QO.assign) ?_
    refine RS.nil ?_
    refine thenC_n ?_
    refine CS.condT (by rfl) rfl ?_
    refine CS.seq ?_
    refine CS.region ?_
    refine RS.q rfl (QO.assign) ?_
    refine RS.nil ?_
    refine thenC_n ?_
    refine CS.ret ?_
    refine blockC_r ?_
    refine thenC_r ?_
    refine retQ.mk (H' := []) (.inr rfl) (RVs.tmp (by rfl) RVs.nil) (List.nil_sublist _) ?_
    exact ⟨congrArg iv (by first | (unfold regErr; simp only [*]; done) | (unfold regErr; simp [*]; done) | (unfold regErr; simp [*]; omega)), rfl⟩
  · have hb0p := of_decide_eq_false hb0
    refine RS.on (dj := 8) rfl (congrArg Value.bool hb0) ?_
    refine RS.q rfl (QO.fieldAddr fo31_2 (by rfl)) ?_
    refine RS.on (dj := 8) rfl (congrArg Value.bool hb0) ?_
    first | (refine RS.q rfl (QO.load ty3 (by rfl) (by repeat (first | exact List.Mem.head _ | refine List.Mem.tail _ ?_)) (by rfl)) ?_) | (refine RS.q rfl (QO.loadO ty3 (by rfl) (by assumption)) ?_) | (refine RS.q rfl (QO.load ty3 (by rfl) (by repeat (first | exact List.Mem.head _ | refine List.Mem.tail _ ?_)) (by assumption)) ?_)
    refine RS.on (dj := 8) rfl (congrArg Value.bool hb0) ?_
    refine RS.q rfl (QO.gtr (by rfl) (by rfl)) ?_
    refine RS.q rfl (QO.pickF (by rfl) hb0 (by rfl)) ?_
    refine RS.q rfl (QO.move) ?_
    refine RS.split (dj := 13) (by rfl) (fun hb1 => ?_) (fun hb1 => ?_)
    · have hb1p := of_decide_eq_true hb1
      refine RS.off (dj := 13) rfl (.inl (congrArg Value.bool hb1)) (fun _ => rfl) rfl ?_
      refine RS.off (dj := 13) rfl (.inl (congrArg Value.bool hb1)) (fun _ => rfl) rfl ?_
      refine RS.off (dj := 13) rfl (.inl (congrArg Value.bool hb1)) (fun _ => rfl) rfl ?_
      refine RS.q rfl (QO.pickT (by rfl) hb1 (by rfl)) ?_
      refine RS.q rfl (QO.move) ?_
      refine RS.off (dj := 18) rfl (.inl (congrArg Value.bool rfl)) (fun _ => rfl) rfl ?_
      refine RS.off (dj := 18) rfl (.inl (congrArg Value.bool rfl)) (fun _ => rfl) rfl ?_
      refine RS.off (dj := 18) rfl (.inl (congrArg Value.bool rfl)) (fun _ => rfl) rfl ?_
      refine RS.q rfl (QO.pickT (by rfl) rfl (by rfl)) ?_
      refine RS.q rfl (QO.assign) ?_
      refine RS.nil ?_
      refine thenC_n ?_
      refine CS.condT (by rfl) rfl ?_
      refine CS.seq ?_
      refine CS.region ?_
      refine RS.q rfl (QO.assign) ?_
      refine RS.nil ?_
      refine thenC_n ?_
      refine CS.ret ?_
      refine blockC_r ?_
      refine thenC_r ?_
      refine retQ.mk (H' := []) (.inr rfl) (RVs.tmp (by rfl) RVs.nil) (List.nil_sublist _) ?_
      exact ⟨congrArg iv (by first | (unfold regErr; simp only [*]; done) | (unfold regErr; simp [*]; done) | (unfold regErr; simp [*]; omega)), rfl⟩
    · have hb1p := of_decide_eq_false hb1
      refine RS.on (dj := 13) rfl (congrArg Value.bool hb1) ?_
      refine RS.q rfl (QO.fieldAddr fo31_3 (by rfl)) ?_
      refine RS.on (dj := 13) rfl (congrArg Value.bool hb1) ?_
      first | (refine RS.q rfl (QO.load ty3 (by rfl) (by repeat (first | exact List.Mem.head _ | refine List.Mem.tail _ ?_)) (by rfl)) ?_) | (refine RS.q rfl (QO.loadO ty3 (by rfl) (by assumption)) ?_) | (refine RS.q rfl (QO.load ty3 (by rfl) (by repeat (first | exact List.Mem.head _ | refine List.Mem.tail _ ?_)) (by assumption)) ?_)
      refine RS.on (dj := 13) rfl (congrArg Value.bool hb1) ?_
      refine RS.q rfl (QO.lss (by rfl) (by rfl)) ?_
      refine RS.q rfl (QO.pickF (by rfl) hb1 (by rfl)) ?_
      refine RS.q rfl (QO.move) ?_
      refine RS.split (dj := 18) (by rfl) (fun hb2 => ?_) (fun hb2 => ?_)
      · have hb2p := of_decide_eq_true hb2
        refine RS.off (dj := 18) rfl (.inl (congrArg Value.bool hb2)) (fun _ => rfl) rfl ?_
        refine RS.off (dj := 18) rfl (.inl (congrArg Value.bool hb2)) (fun _ => rfl) rfl ?_
        refine RS.off (dj := 18) rfl (.inl (congrArg Value.bool hb2)) (fun _ => rfl) rfl ?_
        refine RS.q rfl (QO.pickT (by rfl) hb2 (by rfl)) ?_
        refine RS.q rfl (QO.assign) ?_
        refine RS.nil ?_
        refine thenC_n ?_
        refine CS.condT (by rfl) rfl ?_
        refine CS.seq ?_
        refine CS.region ?_
        refine RS.q rfl (QO.assign) ?_
        refine RS.nil ?_
        refine thenC_n ?_
        refine CS.ret ?_
        refine blockC_r ?_
        refine thenC_r ?_
        refine retQ.mk (H' := []) (.inr rfl) (RVs.tmp (by rfl) RVs.nil) (List.nil_sublist _) ?_
        exact ⟨congrArg iv (by first | (unfold regErr; simp only [*]; done) | (unfold regErr; simp [*]; done) | (unfold regErr; simp [*]; omega)), rfl⟩
      · have hb2p := of_decide_eq_false hb2
        refine RS.on (dj := 18) rfl (congrArg Value.bool hb2) ?_
        refine RS.q rfl (QO.fieldAddr fo31_3 (by rfl)) ?_
        refine RS.on (dj := 18) rfl (congrArg Value.bool hb2) ?_
        first | (refine RS.q rfl (QO.load ty3 (by rfl) (by repeat (first | exact List.Mem.head _ | refine List.Mem.tail _ ?_)) (by rfl)) ?_) | (refine RS.q rfl (QO.loadO ty3 (by rfl) (by assumption)) ?_) | (refine RS.q rfl (QO.load ty3 (by rfl) (by repeat (first | exact List.Mem.head _ | refine List.Mem.tail _ ?_)) (by assumption)) ?_)
        refine RS.on (dj := 18) rfl (congrArg Value.bool hb2) ?_
        refine RS.q rfl (QO.gtr (by rfl) (by rfl)) ?_
        refine RS.q rfl (QO.pickF (by rfl) hb2 (by rfl)) ?_
        refine RS.q rfl (QO.assign) ?_
        refine RS.nil ?_
        refine thenC_n ?_
        refine CS.cond (by rfl) (fun hb3 => ?_) (fun hb3 => ?_)
        · have hb3p := of_decide_eq_true hb3
          refine CS.seq ?_
          refine CS.region ?_
          refine RS.q rfl (QO.assign) ?_
          refine RS.nil ?_
          refine thenC_n ?_
          refine CS.ret ?_
          refine blockC_r ?_
          refine thenC_r ?_
          refine retQ.mk (H' := []) (.inr rfl) (RVs.tmp (by rfl) RVs.nil) (List.nil_sublist _) ?_
          exact ⟨congrArg iv (by first | (unfold regErr; simp only [*]; done) | (unfold regErr; simp [*]; done) | (unfold regErr; simp [*]; omega)), rfl⟩
        · have hb3p := of_decide_eq_false hb3
          refine CS.seq ?_
          refine CS.region ?_
          have hms := mul_small (w := wi) (h := he) (by omega) (by omega) (by omega) (by omega)
          refine RS.q rfl (QO.fieldAddr fo31_2 (by rfl)) ?_
          first | (refine RS.q rfl (QO.load ty3 (by rfl) (by repeat (first | exact List.Mem.head _ | refine List.Mem.tail _ ?_)) (by rfl)) ?_) | (refine RS.q rfl (QO.loadO ty3 (by rfl) (by assumption)) ?_) | (refine RS.q rfl (QO.load ty3 (by rfl) (by repeat (first | exact List.Mem.head _ | refine List.Mem.tail _ ?_)) (by assumption)) ?_)
          refine RS.q rfl (QO.fieldAddr fo31_3 (by rfl)) ?_
          first | (refine RS.q rfl (QO.load ty3 (by rfl) (by repeat (first | exact List.Mem.head _ | refine List.Mem.tail _ ?_)) (by rfl)) ?_) | (refine RS.q rfl (QO.loadO ty3 (by rfl) (by assumption)) ?_) | (refine RS.q rfl (QO.load ty3 (by rfl) (by repeat (first | exact List.Mem.head _ | refine List.Mem.tail _ ?_)) (by assumption)) ?_)
          first | (refine RS.q rfl (QO.mul (by rfl) (by rfl) (by omega) (by omega)) ?_) | (refine RS.q rfl (QO.ibin (by rfl) (by rfl) trivial) ?_)
          refine RS.q rfl (QO.gtr (by rfl) (by rfl)) ?_
          refine RS.q rfl (QO.assign) ?_
          refine RS.nil ?_
          refine thenC_n ?_
          refine CS.cond (by rfl) (fun hb4 => ?_) (fun hb4 => ?_)
          · have hb4p := of_decide_eq_true hb4
            refine CS.seq ?_
            refine CS.region ?_
            refine RS.q rfl (QO.assign) ?_
            refine RS.nil ?_
            refine thenC_n ?_
            refine CS.ret ?_
            refine blockC_r ?_
            refine thenC_r ?_
            refine retQ.mk (H' := []) (.inr rfl) (RVs.tmp (by rfl) RVs.nil) (List.nil_sublist _) ?_
            exact ⟨congrArg iv (by first | (unfold regErr; simp only [*]; done) | (unfold regErr; simp [*]; done) | (unfold regErr; simp [*]; omega)), rfl⟩
          · have hb4p := of_decide_eq_false hb4
            refine CS.seq ?_
            refine CS.region ?_
            refine RS.q rfl (QO.move) ?_
            refine RS.q rfl (QO.fieldAddr fo31_0 (by rfl)) ?_
            first | (refine RS.q rfl (QO.load ty3 (by rfl) (by repeat (first | exact List.Mem.head _ | refine List.Mem.tail _ ?_)) (by rfl)) ?_) | (refine RS.q rfl (QO.loadO ty3 (by rfl) (by assumption)) ?_) | (refine RS.q rfl (QO.load ty3 (by rfl) (by repeat (first | exact List.Mem.head _ | refine List.Mem.tail _ ?_)) (by assumption)) ?_)
            refine RS.q rfl (QO.fieldAddr fo31_2 (by rfl)) ?_
            first | (refine RS.q rfl (QO.load ty3 (by rfl) (by repeat (first | exact List.Mem.head _ | refine List.Mem.tail _ ?_)) (by rfl)) ?_) | (refine RS.q rfl (QO.loadO ty3 (by rfl) (by assumption)) ?_) | (refine RS.q rfl (QO.load ty3 (by rfl) (by repeat (first | exact List.Mem.head _ | refine List.Mem.tail _ ?_)) (by assumption)) ?_)
            refine RS.call rfl (by rfl) ok131 (by rfl) (fun w ho => out1 _ _ _ (by omega) (by omega)) ?_
            rintro _ _ ⟨rfl, rfl⟩
            refine RS.q rfl (QO.move) ?_
            refine RS.split (dj := 37) (by rfl) (fun hb5 => ?_) (fun hb5 => ?_)
            · refine RS.off (dj := 37) rfl (.inl (congrArg Value.bool hb5)) (fun _ => rfl) rfl ?_
              refine RS.off (dj := 37) rfl (.inl (congrArg Value.bool hb5)) (fun _ => rfl) rfl ?_
              refine RS.off (dj := 37) rfl (.inl (congrArg Value.bool hb5)) (fun _ => rfl) rfl ?_
              refine RS.off (dj := 37) rfl (.inl (congrArg Value.bool hb5)) (fun _ => rfl) rfl ?_
              refine RS.off (dj := 37) rfl (.inl (congrArg Value.bool hb5)) (fun _ => rfl) rfl ?_
              refine RS.off (dj := 37) rfl (.inl (congrArg Value.bool hb5)) (fun _ => rfl) rfl ?_
              refine RS.q rfl (QO.pickT (by rfl) hb5 (by rfl)) ?_
              refine RS.q rfl (QO.assign) ?_
              refine RS.nil ?_
              refine thenC_n ?_
              refine CS.condT (by rfl) rfl ?_
              refine CS.seq ?_
              refine CS.region ?_
              refine RS.q rfl (QO.assign) ?_
              refine RS.nil ?_
              refine thenC_n ?_
              refine CS.ret ?_
              refine blockC_r ?_
              refine thenC_r ?_
              refine retQ.mk (H' := []) (.inr rfl) (RVs.tmp (by rfl) RVs.nil) (List.nil_sublist _) ?_
              exact ⟨congrArg iv (by first | (unfold regErr; simp only [*]; done) | (unfold regErr; simp [*]; done) | (unfold regErr; simp [*]; omega)), rfl⟩
            · refine RS.on (dj := 37) rfl (congrArg Value.bool hb5) ?_
              refine RS.q rfl (QO.move) ?_
              refine RS.on (dj := 37) rfl (congrArg Value.bool hb5) ?_
              refine RS.q rfl (QO.fieldAddr fo31_1 (by rfl)) ?_
              refine RS.on (dj := 37) rfl (congrArg Value.bool hb5) ?_
              first | (refine RS.q rfl (QO.load ty3 (by rfl) (by repeat (first | exact List.Mem.head _ | refine List.Mem.tail _ ?_)) (by rfl)) ?_) | (refine RS.q rfl (QO.loadO ty3 (by rfl) (by assumption)) ?_) | (refine RS.q rfl (QO.load ty3 (by rfl) (by repeat (first | exact List.Mem.head _ | refine List.Mem.tail _ ?_)) (by assumption)) ?_)
              refine RS.on (dj := 37) rfl (congrArg Value.bool hb5) ?_
              refine RS.q rfl (QO.fieldAddr fo31_3 (by rfl)) ?_
              refine RS.on (dj := 37) rfl (congrArg Value.bool hb5) ?_
              first | (refine RS.q rfl (QO.load ty3 (by rfl) (by repeat (first | exact List.Mem.head _ | refine List.Mem.tail _ ?_)) (by rfl)) ?_) | (refine RS.q rfl (QO.loadO ty3 (by rfl) (by assumption)) ?_) | (refine RS.q rfl (QO.load ty3 (by rfl) (by repeat (first | exact List.Mem.head _ | refine List.Mem.tail _ ?_)) (by assumption)) ?_)
              refine RS.on (dj := 37) rfl (congrArg Value.bool hb5) ?_
              refine RS.call rfl (by rfl) ok131 (by rfl) (fun w ho => out1 _ _ _ (by omega) (by omega)) ?_
              rintro _ _ ⟨rfl, rfl⟩
              refine RS.q rfl (QO.pickF (by rfl) hb5 (by rfl)) ?_
              refine RS.q rfl (QO.assign) ?_
              refine RS.nil ?_
              refine thenC_n ?_
              refine CS.cond (by rfl) (fun hb6 => ?_) (fun hb6 => ?_)
              · refine CS.seq ?_
                refine CS.region ?_
                refine RS.q rfl (QO.assign) ?_
                refine RS.nil ?_
                refine thenC_n ?_
                refine CS.ret ?_
                refine blockC_r ?_
                refine thenC_r ?_
                refine retQ.mk (H' := []) (.inr rfl) (RVs.tmp (by rfl) RVs.nil) (List.nil_sublist _) ?_
                exact ⟨congrArg iv (by first | (unfold regErr; simp only [*]; done) | (unfold regErr; simp [*]; done) | (unfold regErr; simp [*]; omega)), rfl⟩
              · refine CS.skip ?_
                refine blockC_n ?_
                refine thenC_n ?_
                refine CS.seq ?_
                refine CS.region ?_
                refine RS.q rfl (QO.assign) ?_
                refine RS.nil ?_
                refine thenC_n ?_
                refine CS.ret ?_
                refine retQ.mk (H' := []) (.inr rfl) (RVs.tmp (by rfl) RVs.nil) (List.nil_sublist _) ?_
                exact ⟨congrArg iv (by first | (unfold regErr; simp only [*]; done) | (unfold regErr; simp [*]; done) | (unfold regErr; simp [*]; omega)), rfl⟩

def inB (n l h : Int) : Bool := decide (l ≤ n) && decide (n ≤ h)
end Go.Proofs.YtapcgokcfmklbaaDoor

namespace Go.Proofs.YtapcgokcfmklbaaDoor
open Go Go.Proofs Go.RowKit

theorem ty31 : tyChk Tryd.prog 31 = some ([.int .i64 0, .int .i64 0, .int .i64 0, .int .i64 0], true, 32) := by kernel_rfl
theorem ty32 : tyChk Tryd.prog 32 = some ([.slice none 0 0], false, 24) := by kernel_rfl
theorem ty36 : tyChk Tryd.prog 36 = some ([.float .f32 0], false, 4) := by kernel_rfl
theorem fo34_0 : fldOff Tryd.prog 34 0 = some (0, 31) := by kernel_rfl
theorem fo34_1 : fldOff Tryd.prog 34 1 = some (4, 32) := by kernel_rfl
theorem ok11 : callOK Tryd.prog 11 = true := by kernel_rfl
theorem ok69 : callOK Tryd.prog 69 = true := by kernel_rfl
def frErr (x y w h : Int) (n : Nat) : Int := if regErr x y w h ≠ 0 then regErr x y w h else if (n : Int) ≠ 4 * w * h then 2 else 0
set_option maxRecDepth 100000 in
theorem check (x y wi he : Int) (A : Option Addr) (m c : Nat) (W : World) : Fn_ Tryd.prog 15 #[.agg #[iv x, iv y, iv wi, iv he, .slice A m c]] W (fun v H => v = iv (frErr x y wi he m) ∧ H = []) := by
  refine Fn_.intro Tryd.func15 rfl rfl (by rfl) ?_
  refine CS.seq ?_
  refine CS.region ?_
  refine RS.box rfl (by rfl) (by rfl) ?_
  intro g1
  refine RS.q rfl (QO.assign) ?_
  refine RS.nil ?_
  refine thenC_n ?_
  refine CS.seq ?_
  refine CS.seq ?_
  refine CS.region ?_
  refine RS.q rfl (QO.fieldAddr fo34_0 (by rfl)) ?_
  first | (refine RS.q rfl (QO.loadB ty31 (by rfl) (by repeat (first | exact List.Mem.head _ | refine List.Mem.tail _ ?_)) (by rfl)) ?_) | (refine RS.q rfl (QO.loadA ty31 (by rfl) (by repeat (first | exact List.Mem.head _ | refine List.Mem.tail _ ?_)) (by rfl) (by rfl)) ?_) | (refine RS.q rfl (QO.loadOA ty31 (by rfl) (by assumption) (by rfl)) ?_)
  refine RS.call rfl (by rfl) ok69 (by rfl) (fun w ho => checkRegion _ _ _ _ _) ?_
  rintro _ _ ⟨rfl, rfl⟩
  refine RS.q rfl (QO.assign) ?_
  refine RS.nil ?_
  refine thenC_n ?_
  refine CS.seq ?_
  refine CS.region ?_
  refine RS.q rfl (QO.move) ?_
  refine RS.q rfl (QO.neq (by rfl) (by rfl)) ?_
  refine RS.nil ?_
  refine thenC_n ?_
  refine CS.cond (by rfl) (fun hb0 => ?_) (fun hb0 => ?_)
  · have hb0p := bne_iff_ne.1 hb0
    refine CS.seq ?_
    refine CS.region ?_
    refine RS.q rfl (QO.move) ?_
    refine RS.q rfl (QO.assign) ?_
    refine RS.nil ?_
    refine thenC_n ?_
    refine CS.ret ?_
    refine thenC_r ?_
    refine retQ.mk (H' := []) (.inr rfl) (RVs.tmp (by rfl) RVs.nil) (List.nil_sublist _) ?_
    exact ⟨congrArg iv (by unfold frErr; rw [if_pos hb0p]), rfl⟩
  · have hb0p := of_bne_false hb0
    refine CS.skip ?_
    refine thenC_n ?_
    refine CS.seq ?_
    refine CS.seq ?_
    refine CS.region ?_
    have hro := regErr_ok (of_bne_false hb0)
    refine RS.q rfl (QO.fieldAddr fo34_1 (by rfl)) ?_
    first | (refine RS.q rfl (QO.load ty32 (by rfl) (by repeat (first | exact List.Mem.head _ | refine List.Mem.tail _ ?_)) (by rfl)) ?_) | (refine RS.q rfl (QO.loadO ty32 (by rfl) (by assumption)) ?_) | (refine RS.q rfl (QO.load ty32 (by rfl) (by repeat (first | exact List.Mem.head _ | refine List.Mem.tail _ ?_)) (by assumption)) ?_)
    refine RS.q rfl (QO.lenS Tryd.underlying32 (by rfl)) ?_
    refine RS.q rfl (QO.fieldAddr fo34_0 (by rfl)) ?_
    refine RS.q rfl (QO.fieldAddr fo31_2 (by rfl)) ?_
    first | (refine RS.q rfl (QO.load ty3 (by rfl) (by repeat (first | exact List.Mem.head _ | refine List.Mem.tail _ ?_)) (by rfl)) ?_) | (refine RS.q rfl (QO.loadO ty3 (by rfl) (by assumption)) ?_) | (refine RS.q rfl (QO.load ty3 (by rfl) (by repeat (first | exact List.Mem.head _ | refine List.Mem.tail _ ?_)) (by assumption)) ?_)
    first | (refine RS.q rfl (QO.mul (by rfl) (by rfl) (by omega) (by omega)) ?_) | (refine RS.q rfl (QO.ibin (by rfl) (by rfl) trivial) ?_)
    refine RS.q rfl (QO.fieldAddr fo34_0 (by rfl)) ?_
    refine RS.q rfl (QO.fieldAddr fo31_3 (by rfl)) ?_
    first | (refine RS.q rfl (QO.load ty3 (by rfl) (by repeat (first | exact List.Mem.head _ | refine List.Mem.tail _ ?_)) (by rfl)) ?_) | (refine RS.q rfl (QO.loadO ty3 (by rfl) (by assumption)) ?_) | (refine RS.q rfl (QO.load ty3 (by rfl) (by repeat (first | exact List.Mem.head _ | refine List.Mem.tail _ ?_)) (by assumption)) ?_)
    first | (refine RS.q rfl (QO.mul (by rfl) (by rfl) (by omega) (by omega)) ?_) | (refine RS.q rfl (QO.ibin (by rfl) (by rfl) trivial) ?_)
    refine RS.q rfl (QO.neq (by rfl) (by rfl)) ?_
    refine RS.nil ?_
    refine thenC_n ?_
    refine CS.cond (by rfl) (fun hb1 => ?_) (fun hb1 => ?_)
    · have hb1p := bne_iff_ne.1 hb1
      refine CS.seq ?_
      refine CS.region ?_
      refine RS.q rfl (QO.assign) ?_
      refine RS.nil ?_
      refine thenC_n ?_
      refine CS.ret ?_
      refine thenC_r ?_
      refine retQ.mk (H' := []) (.inr rfl) (RVs.tmp (by rfl) RVs.nil) (List.nil_sublist _) ?_
      exact ⟨congrArg iv (by unfold frErr; rw [if_neg (Decidable.not_not.2 hb0p), if_pos hb1p]), rfl⟩
    · have hb1p := of_bne_false hb1
      refine CS.skip ?_
      refine thenC_n ?_
      refine CS.seq ?_
      refine CS.region ?_
      refine RS.q rfl (QO.assign) ?_
      refine RS.nil ?_
      refine thenC_n ?_
      refine CS.ret ?_
      refine retQ.mk (H' := []) (.inr rfl) (RVs.tmp (by rfl) RVs.nil) (List.nil_sublist _) ?_
      exact ⟨congrArg iv (by unfold frErr; rw [if_neg (Decidable.not_not.2 hb0p), if_neg (Decidable.not_not.2 hb1p)]), rfl⟩

/-- what Plane comes to -/
def PlaneR (x y wi he : Int) (xs : List Nat) (ch : Int) (v : Value) (H : HL) : Prop :=
  (frErr x y wi he xs.length ≠ 0 ∧ v = .tuple #[.slice none 0 0, iv (frErr x y wi he xs.length)] ∧ H = []) ∨
  (frErr x y wi he xs.length = 0 ∧ (ch < 0 ∨ 3 < ch) ∧ v = .tuple #[.slice none 0 0, iv 3] ∧ H = []) ∨
  (frErr x y wi he xs.length = 0 ∧ 0 ≤ ch ∧ ch ≤ 3 ∧ ∃ g, v = .tuple #[.slice (some ⟨g, 0, none⟩) (wi * he).toNat (wi * he).toNat, iv 0] ∧ H = [⟨g, 36, (planeV xs ch (wi * he).toNat).map flt⟩])

theorem PlaneR.ok {x y wi he : Int} {xs : List Nat} {ch : Int} {v : Value} {H : HL} (h : PlaneR x y wi he xs ch v H) (e : frErr x y wi he xs.length = 0) (h0 : 0 ≤ ch) (h3 : ch ≤ 3) :
    ∃ g, v = .tuple #[.slice (some ⟨g, 0, none⟩) (wi * he).toNat (wi * he).toNat, iv 0] ∧ H = [⟨g, 36, (planeV xs ch (wi * he).toNat).map flt⟩] := by
  rcases h with ⟨h, _⟩ | ⟨_, h, _⟩ | ⟨_, _, _, h⟩
  · exact absurd e h
  · omega
  · exact h
/-- the sum of a channel -/
def chanF (xs : List Nat) (m : Nat) (ch : Nat) : Nat := Go.Proofs.YtapcgokcfmklbaaDoor.sum (planeV xs (ch : Int) m)
end Go.Proofs.YtapcgokcfmklbaaDoor

namespace Go.Proofs.YtapcgokcfmklbaaDoor
open Go Go.RowKit

def intFields (P : Program) : Nat → List Field → Bool
  | _, [] => true
  | o, f :: fs => f.name != "_" && f.offset == o && (match P.underlying f.type with | some (.int .i64) => true | _ => false) && (match tyChk P f.type with | some ([_], false, _) => true | _ => false) && intFields P (o + 1) fs
def intsT (P : Program) (t : TypeId) : Nat :=
  match P.underlying t with
  | some (.struct fs) => if P.stoodInHeld t = false ∧ P.eqGuardType P.depth t = false ∧ intFields P 0 fs.toList = true then fs.size else 0
  | _ => 0
section
variable {P : Program} {W : World} {H : HL} {e : Env} {x y : Operand} {t t' ty : TypeId}
end
end Go.Proofs.YtapcgokcfmklbaaDoor

namespace Go.Proofs.YtapcgokcfmklbaaDoor
open Go Go.RowKit

/-- A pixel. -/
abbrev pxv (q : Nat → Nat) : Value := .agg #[flt (q 0), flt (q 1), flt (q 2), flt (q 3)]
/-- The numbers of a frame that is made pixel by pixel. -/
def madeF (p : Int → Int → Nat → Nat) (x y : Int) (w : Nat) (i : Nat) : Nat := cl (p (x + ((i / 4 % w : Nat) : Int)) (y + ((i / 4 / w : Nat) : Int)) (i % 4))
def madeV (p : Int → Int → Nat → Nat) (x y : Int) (w m : Nat) : List Nat := (List.range m).map (madeF p x y w)
def near (x X : Int) (w : Nat) : Int := min (max X x) (x + w - 1)
/-- A number of a pixel of a frame. -/
def pixF (xs : List Nat) (x y : Int) (w h : Nat) (X Y : Int) (c : Nat) : Nat := xs.getD (4 * ((near y Y h - y).toNat * w + (near x X w - x).toNat) + c) 0
end Go.Proofs.YtapcgokcfmklbaaDoor

namespace Go.Proofs.YtapcgokcfmklbaaDoor
open Go Go.RowKit

theorem num_bd {b : Nat} {s : Bool} {m : Nat} {p : Int} (h : Ieee.single.read b = .number s m p) : m ≤ 16777215 ∧ p ≤ 104 ∧ -149 ≤ p := by
  have e2 : Ieee.single.binade = 8388608 := rfl
  have e3 : Ieee.single.infRung = 2139095040 := rfl
  have e4 : Ieee.single.leastPlace = -149 := rfl
  unfold Ieee.Format.read at h
  simp only [e2, e3, e4] at h
  split at h
  · cases h; omega
  · split at h
    · cases h; omega
    · split at h <;> cases h
/-- is it a number: no NaN and no infinity -/
def numB (b : Nat) : Bool := match Ieee.single.read b with
  | .number .. => true
  | _ => false
/-- a weighted sum -/
def lumaV (w q : Nat → Nat) : Nat := fo .add (fo .add (fo .mul (w 0) (q 0)) (fo .mul (w 1) (q 1))) (fo .mul (w 2) (q 2))
/-- all of a row are numbers -/
def numsB (l : List Nat) : Bool := l.all numB
end Go.Proofs.YtapcgokcfmklbaaDoor

namespace Go.Proofs.YtapcgokcfmklbaaDoor
open Go Go.RowKit

/-- the place before the first tile -/
def px (X : Int) (s : Nat) : Nat := (X % (s : Int)).toNat
/-- how many tiles -/
def cntI (X : Int) (w s : Nat) : Nat := (px X s + w + s - 1) / s
/-- where tile i begins, and how wide it is -/
def tb (X : Int) (s i : Nat) : Int := max X (X - (px X s : Nat) + ((s * i : Nat) : Int))
def tw (X : Int) (w s i : Nat) : Int := min (X + w) (X - (px X s : Nat) + ((s * i : Nat) : Int) + s) - tb X s i
/-- how much the first i tiles cover -/
def cov (X : Int) (w s i : Nat) : Int := min (w : Int) (max 0 (((s * i : Nat) : Int) - (px X s : Nat)))
abbrev Rg := Int × Int × Int × Int
def rgc (t : Rg) : List Value := [iv t.1, iv t.2.1, iv t.2.2.1, iv t.2.2.2]
def area (t : Rg) : Int := t.2.2.1 * t.2.2.2
def areas : List Rg → Int
  | [] => 0
  | t :: l => area t + areas l
/-- tile (i, j) of a region -/
def tile (X Y : Int) (w h s i j : Nat) : Rg := (tb X s i, tb Y s j, tw X w s i, tw Y h s j)
/-- the tiles of the rows below j -/
def rowsL (X Y : Int) (w h s : Nat) : Nat → List Rg
  | 0 => []
  | j + 1 => rowsL X Y w h s j ++ (List.range (cntI X w s)).map (tile X Y w h s · j)
/-- and of row j the first i -/
def tilesL (X Y : Int) (w h s j i : Nat) : List Rg := rowsL X Y w h s j ++ (List.range i).map (tile X Y w h s · j)
/-- cells of a row of regions -/
def rgs (l : List Rg) : List Value := l.flatMap rgc
theorem rgs_at : ∀ (l : List Rg) (i : Nat) (t : Rg) (j : Nat) (v : Value), l[i]? = some t → (rgc t)[j]? = some v → (rgs l)[i * 4 + j]? = some v
  | [], i, t, j, v, h, _ => by simp at h
  | u :: l, 0, t, j, v, h, hv => by
    simp at h; subst h
    have hj : j < (rgc u).length := (List.getElem?_eq_some_iff.1 hv).1
    show (rgc u ++ rgs l)[0 * 4 + j]? = _
    rw [List.getElem?_append_left (by omega), show 0 * 4 + j = j by omega]
    exact hv
  | u :: l, i + 1, t, j, v, h, hv => by
    show (rgc u ++ rgs l)[(i + 1) * 4 + j]? = _
    have h4 : (rgc u).length = 4 := rfl
    rw [List.getElem?_append_right (by omega), h4, show (i + 1) * 4 + j - 4 = i * 4 + j by omega]
    exact rgs_at l i t j v (by simpa using h) hv
/-- A slice of regions that reads so. -/
def RSl (W : World) (A : Option Addr) (l : List Rg) : Prop := 0 < l.length → ∃ b o, A = some ⟨b, o, none⟩ ∧ ∀ i t, l[i]? = some t → ∀ j v, (rgc t)[j]? = some v → W.cell? ((⟨b, o + i * 4, none⟩ : Addr).add j) = some v
theorem RSl.own {W w : World} {H : HL} {A : Option Addr} {l : List Rg} (h : RSl W A l) (ho : Own W w H) : RSl w A l := fun hn => by
  obtain ⟨b, o, h1, h2⟩ := h hn
  exact ⟨b, o, h1, fun i t hi j v hj => ho.old (h2 i t hi j v hj)⟩
theorem RSl.blk {W w : World} {H : HL} {g : Nat} {t : TypeId} {l : List Rg} {junk : List Value} (ho : Own W w H) (hm : (⟨g, t, rgs l ++ junk⟩ : B) ∈ H) : RSl w (some ⟨g, 0, none⟩) l := fun _ => by
  refine ⟨g, 0, rfl, fun i u hi j v hj => ?_⟩
  rw [addr_add, (ho.blk _ hm).2.cell]
  have h1 := rgs_at l i u j v hi hj
  have h2 : i * 4 + j < (rgs l).length := (List.getElem?_eq_some_iff.1 h1).1
  rw [Nat.zero_add, List.getElem?_append_left h2]
  exact h1
/-! what two regions have in common -/
def cmw (a b c d : Int) : Int := min (a + c) (b + d) - max a b
def cmB (ax ay aw ah bx bz bw bh : Int) : Bool := decide (1 ≤ cmw ax bx aw bw) && decide (1 ≤ cmw ay bz ah bh)
def cmT (ax ay aw ah bx bz bw bh : Int) : Rg := if cmB ax ay aw ah bx bz bw bh = true then (max ax bx, max ay bz, cmw ax bx aw bw, cmw ay bz ah bh) else (0, 0, 0, 0)
section
variable {ax ay aw ah bx bz bw bh : Int}
end
/-! a region grown -/
def gErr (x y w h n e1 e2 : Int) : Int := if e1 ≠ 0 then e1 else if n < -256 ∨ 256 < n then 3 else e2
def gT (x y w h n e : Int) : Rg := if e = 0 then (x - n, y - n, w + 2 * n, h + 2 * n) else (0, 0, 0, 0)
end Go.Proofs.YtapcgokcfmklbaaDoor

namespace Go.Proofs.YtapcgokcfmklbaaDoor
open Go Go.RowKit

/-- the first error of n things -/
def firstE (f : Nat → Int) : Nat → Int
  | 0 => 0
  | n + 1 => if firstE f n ≠ 0 then firstE f n else f n
theorem firstE_go {f : Nat → Int} {k : Nat} (h : firstE f k = 0) (h2 : f k = 0) : firstE f (k + 1) = 0 := by
  unfold firstE; rw [if_neg (by simpa using h)]; exact h2
theorem firstE_at {f : Nat → Int} {k : Nat} (h : firstE f k = 0) (h2 : f k ≠ 0) : ∀ {n : Nat}, k < n → firstE f n = f k
  | 0, hk => absurd hk (Nat.not_lt_zero _)
  | n + 1, hk => by
    unfold firstE
    by_cases e : k = n
    · subst e; rw [if_neg (by simpa using h)]
    · rw [firstE_at h h2 (n := n) (by omega), if_pos h2]
/-- what is wrong with bands: five numbers each -/
def bandE (xs : List Nat) (i : Nat) : Int := if numB (xs.getD (5 * i) 0) = false then 2 else if 0 < i ∧ fcmpB .gtr (xs.getD (5 * i) 0) (xs.getD (5 * (i - 1)) 0) = false then 8 else 0
def bandsE (xs : List Nat) (n : Nat) : Int := if n = 0 then 10 else if 32 < n then 4 else firstE (bandE xs) n
/-- the colour of a luma -/
def fourF (a b c d : Nat) : Nat → Nat
  | 0 => a
  | 1 => b
  | 2 => c
  | _ => d
def falseQ (xs : List Nat) (l a : Nat) : Nat → Nat → Nat
  | 0 => fourF l l l a
  | k + 1 => if fcmpB .leq (xs.getD (5 * k) 0) l then fun c => xs.getD (5 * k + 1 + c) 0 else falseQ xs l a k
/-- stripes -/
def zebQ (x y wd : Int) (lv : Nat) (l : Nat) (q : Nat → Nat) : Nat → Nat := if fcmpB .geq l lv then (if (x + y) / wd % 2 = 0 then fourF 1065353216 1065353216 1065353216 (q 3) else fourF 0 0 0 (q 3)) else q
/-- an integer as a float -/
def cvF (n : Int) : Nat := FloatKind.f32.nearest n
section
variable {P : Program} {W : World} {H : HL} {e : Env} {x : Operand} {t t' ty : TypeId}
theorem QO.conv_i64_f32 {n : Int} (hu : P.underlying t = some (.int .i64)) (hu' : P.underlying t' = some (.float .f32)) (hx : ev e x = .int .i64 n) : QO P W H e (.convert t t' x) ty (flt (cvF n)) := fun d pos af gd w _ => by
  simp only [execOp, hx, Sem.run_bind, Sem.run_pure]
  simp [convert, run_underlying hu, run_underlying hu', Conv.intToFloat, cvF]
end
/-- what is wrong with a call of False, of Zebra -/
def falE (ok : Bool) (e : Int) : Int := if ok = false then 2 else e
def falT (bs : List Nat) (u : Nat → Nat) (nb : Nat) (q : Nat → Nat) : Nat → Nat := falseQ bs (lumaV u q) (q 3) nb
def zebE (ok ok2 : Bool) (wd : Int) : Int := if ok = false ∨ ok2 = false then 2 else if wd < 1 ∨ 64 < wd then 3 else 0
end Go.Proofs.YtapcgokcfmklbaaDoor

namespace Go.Proofs.YtapcgokcfmklbaaDoor
open Go Go.RowKit

def and64 (i j : Int) : Int := IntKind.i64.wrap (BitVec.ofInt 64 i &&& BitVec.ofInt 64 j).toNat
section
variable {P : Program} {W : World} {H : HL} {e : Env} {x y : Operand} {t t' ty : TypeId}
theorem QO.and64 {i j : Int} (hx : ev e x = .int .i64 i) (hy : ev e y = .int .i64 j) : QO P W H e (.binOp .and t x y t') ty (.int .i64 (Go.Proofs.YtapcgokcfmklbaaDoor.and64 i j)) := QO.ibin hx hy (op := .and) trivial
theorem QO.conv_int {k k0 k' : IntKind} {n : Int} (hu : P.underlying t = some (.int k0)) (hu' : P.underlying t' = some (.int k')) (hx : ev e x = .int k n) : QO P W H e (.convert t t' x) ty (.int k' (k'.wrap n)) := fun d pos af gd w _ => by
  simp only [execOp, hx, Sem.run_bind, Sem.run_pure]
  simp [convert, run_underlying hu, run_underlying hu', Conv.intToInt]
theorem QO.indexS {s : ByteArray} {k : IntKind} {i : Int} {b : UInt8} (hu : P.underlying t = some .string) (hx : ev e x = .string s) (hy : ev e y = .int k i) (h0 : 0 ≤ i) (hb : s[i.toNat]? = some b) : QO P W H e (.index t x y) ty (.int .u8 b.toNat) := fun d pos af gd w _ => by
  simp [execOp, hx, hy, Instr.index, asIntOf, run_underlying hu, h0, hb]
end
/-- the place of a single in the order -/
def plV (v : Nat) : Int := if and64 v 2147483648 ≠ 0 then -(and64 v 2147483647) - 1 else v
end Go.Proofs.YtapcgokcfmklbaaDoor

namespace Go.Proofs.YtapcgokcfmklbaaDoor
open Go Go.RowKit

/-- the string of these bytes -/
abbrev sv (l : List UInt8) : Value := .string ⟨l.toArray⟩
/-- bytes as cells -/
def bc (l : List UInt8) : List Value := l.map fun b => Value.int .u8 (b.toNat : Int)
theorem sv_of (s : ByteArray) : ∃ l : List UInt8, s = ⟨l.toArray⟩ := ⟨s.data.toList, by cases s; simp⟩
theorem bs_size (l : List UInt8) : (⟨l.toArray⟩ : ByteArray).size = l.length := rfl
theorem bs_get (l : List UInt8) (i : Nat) : (⟨l.toArray⟩ : ByteArray)[i]? = l[i]? := by
  rcases Nat.lt_or_ge i l.length with h | h
  · rw [List.getElem?_eq_getElem h]
    exact getElem?_pos (⟨l.toArray⟩ : ByteArray) i h
  · rw [List.getElem?_eq_none h]
    exact getElem?_neg (⟨l.toArray⟩ : ByteArray) i (Nat.not_lt.2 h)
theorem bs_cut (l : List UInt8) (a b : Nat) : (⟨l.toArray⟩ : ByteArray).extract a b = ⟨((l.take b).drop a).toArray⟩ := by
  apply ByteArray.ext
  simp
  rw [List.drop_take]
theorem bs_toList (l : List UInt8) : (⟨l.toArray⟩ : ByteArray).toList = l := by rw [ByteArray.toList_eq]
section
variable {P : Program} {W : World} {H : HL} {e : Env} {x y : Operand} {t t' ty : TypeId} {l m : List UInt8}
theorem QO.streq (hx : ev e x = sv l) (hy : ev e y = sv m) : QO P W H e (.binOp .eql t x y t') ty (.bool (l == m)) := by
  refine QO.bin hx hy (fun w => ?_)
  have h1 : (eqGuard .eql t x y (sv l) (sv m)).run P w = .ok () w := by simp [eqGuard]
  simp only [Sem.run_bind, h1, Result.andThen_ok]
  simp [binOp, Op.stringOp]
theorem QO.strne (hx : ev e x = sv l) (hy : ev e y = sv m) : QO P W H e (.binOp .neq t x y t') ty (.bool (l != m)) := by
  refine QO.bin hx hy (fun w => ?_)
  have h1 : (eqGuard .neq t x y (sv l) (sv m)).run P w = .ok () w := by simp [eqGuard]
  simp only [Sem.run_bind, h1, Result.andThen_ok]
  have h2 : (binOp .neq t (sv l) (sv m)).run P w = .ok (.bool (!(l == m))) w := by simp [binOp, Op.stringOp]
  exact h2
theorem QO.lenStr (hu : P.underlying t = some .string) (hx : ev e x = sv l) : QO P W H e (.call ⟨.builtin .len, #[x], #[t]⟩) ty (.int .i64 l.length) := fun d pos af gd w _ => by
  simp [execOp, resolve, invoke, builtin, Builtin.len_, hx, run_underlying hu, goInt, bs_size]
theorem QO.idxStr {k : IntKind} {i : Int} {b : UInt8} (hu : P.underlying t = some .string) (hx : ev e x = sv l) (hy : ev e y = .int k i) (h0 : 0 ≤ i) (hb : l[i.toNat]? = some b) : QO P W H e (.index t x y) ty (.int .u8 (b.toNat : Int)) :=
  QO.indexS hu hx hy h0 (by rw [bs_get]; exact hb)
theorem QO.cutStrHi {k : IntKind} {h : Int} (hu : P.underlying t = some .string) (hx : ev e x = sv l) (hy : ev e y = .int k h) (h0 : 0 ≤ h) (h1 : h ≤ l.length) : QO P W H e (.slice t x none (some y) none) ty (sv (l.take h.toNat)) := fun d pos af gd w _ => by
  have h2 : (⟨l.toArray⟩ : ByteArray).size = l.length := rfl
  simp [execOp, hx, hy, Instr.sliceAt, Instr.slice, run_underlying hu, Instr.sliceBounds, Instr.sliceBound, asIntOf, h0, h2, h1, bs_cut]
theorem QO.cutStrLo {k : IntKind} {i : Int} (hu : P.underlying t = some .string) (hx : ev e x = sv l) (hy : ev e y = .int k i) (h0 : 0 ≤ i) (h1 : i ≤ l.length) : QO P W H e (.slice t x (some y) none none) ty (sv (l.drop i.toNat)) := fun d pos af gd w _ => by
  have h2 : (⟨l.toArray⟩ : ByteArray).size = l.length := rfl
  simp [execOp, hx, hy, Instr.sliceAt, Instr.slice, run_underlying hu, Instr.sliceBounds, Instr.sliceBound, asIntOf, h0, h2, h1, bs_cut]
end
def u8ok (P : Program) (el : TypeId) : Bool := match P.info? el with
  | some i => (match i.zero with | some (.int .u8 0) => true | _ => false) && i.size == 1 && i.bytes == 1
  | none => false
section
variable {P : Program} {W : World} {n : Nat} {ops : Array Oper} {Q : Env → HL → Prop} {rest : List Oper} {e : Env} {H : HL}
variable {d : Tmp} {ty t t2 : TypeId} {pos : String} {af : Array Edge} {x y : Operand} {v : Value}
end
end Go.Proofs.YtapcgokcfmklbaaDoor

namespace Go.Proofs.YtapcgokcfmklbaaDoor
open Go Go.RowKit

/-- frames counted in a second, 0 where there is no such rate -/
def sec (r : Int) : Int := if r = 24 ∨ r = 25 ∨ r = 30 ∨ r = 48 ∨ r = 50 ∨ r = 60 then r else if r = 29 then 30 else 0
theorem sec_cases {r : Int} (h : sec r ≠ 0) : r = 24 ∨ r = 25 ∨ r = 30 ∨ r = 48 ∨ r = 50 ∨ r = 60 ∨ r = 29 := by
  unfold sec at h
  split at h
  · omega
  · split at h
    · omega
    · omega
def codE (r h m s f : Int) : Int :=
  if sec r = 0 then 1 else if ¬ (0 ≤ h ∧ h ≤ 23 ∧ 0 ≤ m ∧ m ≤ 59 ∧ 0 ≤ s ∧ s ≤ 59 ∧ 0 ≤ f ∧ f < sec r) then 3 else if r = 29 ∧ m.tmod 10 ≠ 0 ∧ s = 0 ∧ f < 2 then 5 else 0
/-- the frames before a code -/
def frmN (r h m s f : Int) : Int := (60 * (60 * h + m) + s) * sec r + f - (if r = 29 then 2 * ((60 * h + m) - (60 * h + m) / 10) else 0)
def dayN (r : Int) : Int := if r = 29 then 2589408 else 86400 * sec r
/-- the count, the dropped codes with it, of the n-th frame of a day -/
def fulN (r n : Int) : Int := if r = 29 then 18000 * (n / 17982) + n % 17982 + 2 * (if 1800 ≤ n % 17982 then (n % 17982 - 1800) / 1798 + 1 else 0) else n
def cdH (r n : Int) : Int := fulN r n / sec r / 3600
def cdM (r n : Int) : Int := fulN r n / sec r / 60 % 60
def cdS (r n : Int) : Int := fulN r n / sec r % 60
def cdF (r n : Int) : Int := fulN r n % sec r
/-! ### printed and read -/
def d2 (n : Nat) : List UInt8 := [UInt8.ofNat (48 + n / 10), UInt8.ofNat (48 + n % 10)]
def sepB (r : Int) : UInt8 := if r = 29 then 59 else 58
def prt (r : Int) (h m s f : Nat) : List UInt8 := d2 h ++ [58] ++ d2 m ++ [58] ++ d2 s ++ [sepB r] ++ d2 f
def dg (b : UInt8) : Bool := decide (48 ≤ b.toNat ∧ b.toNat ≤ 57)
def num2 (a b : UInt8) : Nat := 10 * (a.toNat - 48) + (b.toNat - 48)
/-- what stands at place j of a code's form -/
def formB (r : Int) (j : Nat) : UInt8 := if j % 3 = 2 then (if j = 8 then sepB r else 58) else 48
def chk (r : Int) (l : List UInt8) (j : Nat) : Bool := if j % 3 = 2 then l.getD j 0 == formB r j else dg (l.getD j 0)
def fld (l : List UInt8) (k : Nat) : Nat := num2 (l.getD (3 * k) 0) (l.getD (3 * k + 1) 0)
def chkAll (r : Int) (l : List UInt8) : Bool := (List.range 11).all (chk r l)
def prsE (r : Int) (l : List UInt8) : Int := if sec r = 0 then 1 else if ¬ (l.length = 11 ∧ chkAll r l = true) then 9 else codE r (fld l 0) (fld l 1) (fld l 2) (fld l 3)
def prsV (r : Int) (l : List UInt8) (k : Nat) : Int := if prsE r l = 0 then (fld l k : Int) else 0
end Go.Proofs.YtapcgokcfmklbaaDoor

namespace Go.Proofs.YtapcgokcfmklbaaDoor
open Go Go.RowKit

/-- A slice's cells that are integers: nothing is asked of an empty one. -/
def IS (w : World) (A : Option Addr) (xs : List Int) : Prop :=
  0 < xs.length → ∃ b o, A = some ⟨b, o, none⟩ ∧ ∀ i x, xs[i]? = some x → w.cell? ⟨b, o + i, none⟩ = some (iv x)
theorem IS.own {W w : World} {H : HL} {A : Option Addr} {xs : List Int} (h : IS W A xs) (ho : Own W w H) : IS w A xs := fun hn => by
  obtain ⟨b, o, h1, h2⟩ := h hn
  exact ⟨b, o, h1, fun i x hi => ho.old (h2 i x hi)⟩
variable {H : Type} {enc : TypeId × Value → H} {P : Program} {w : World} {base : Nat} {spare : Nat → Bool} {held : Bool}
end Go.Proofs.YtapcgokcfmklbaaDoor

namespace Go.Proofs.YtapcgokcfmklbaaDoor
open Go Go.Proofs Go.RowKit

theorem ok88 : callOK Tryd.prog 88 = true := by kernel_rfl
theorem ok93 : callOK Tryd.prog 93 = true := by kernel_rfl
theorem ok138 : callOK Tryd.prog 138 = true := by kernel_rfl
theorem ok162 : callOK Tryd.prog 162 = true := by kernel_rfl

set_option maxRecDepth 100000 in
theorem second (rate : Int) (W : World) : Fn_ Tryd.prog 88 #[iv rate] W (fun v H => v = iv (sec rate) ∧ H = []) := by
  refine Fn_.intro Tryd.func88 rfl rfl (by rfl) ?_
  refine CS.seq ?_
  refine CS.region ?_
  refine RS.q rfl (QO.assign) ?_
  refine RS.nil ?_
  refine thenC_n ?_
  refine CS.seq ?_
  refine CS.seq ?_
  refine CS.region ?_
  refine RS.q rfl (QO.move) ?_
  refine RS.nil ?_
  refine thenC_n ?_
  refine CS.block ?_
  refine CS.seq ?_
  refine CS.seq ?_
  refine CS.region ?_
  refine RS.q rfl (QO.eql (by rfl) (by rfl)) ?_
  refine RS.q rfl (QO.assign) ?_
  refine RS.nil ?_
  refine thenC_n ?_
  refine CS.cond (by rfl) (fun hb0 => ?_) (fun hb0 => ?_)
  · have hb0p := eq_of_beq hb0
    refine CS.skip ?_
    refine thenC_n ?_
    refine CS.condT (by rfl) hb0 ?_
    refine CS.seq ?_
    refine CS.region ?_
    refine RS.q rfl (QO.move) ?_
    refine RS.q rfl (QO.assign) ?_
    refine RS.nil ?_
    refine thenC_n ?_
    refine CS.ret ?_
    refine blockC_r ?_
    refine thenC_r ?_
    refine retQ.mk (H' := []) (.inr rfl) (RVs.tmp (by rfl) RVs.nil) (List.nil_sublist _) ?_
    exact ⟨congrArg iv (by unfold sec; first | (rw [if_pos (by omega)]; done) | (rw [if_neg (by omega), if_pos (by omega)]; done) | (rw [if_neg (by omega), if_neg (by omega)]; done)), rfl⟩
  · have hb0p := ne_of_beq_false hb0
    refine CS.seq ?_
    refine CS.region ?_
    refine RS.q rfl (QO.eql (by rfl) (by rfl)) ?_
    refine RS.q rfl (QO.assign) ?_
    refine RS.nil ?_
    refine thenC_n ?_
    refine CS.cond (by rfl) (fun hb1 => ?_) (fun hb1 => ?_)
    · have hb1p := eq_of_beq hb1
      refine CS.skip ?_
      refine thenC_n ?_
      refine CS.condT (by rfl) hb1 ?_
      refine CS.seq ?_
      refine CS.region ?_
      refine RS.q rfl (QO.move) ?_
      refine RS.q rfl (QO.assign) ?_
      refine RS.nil ?_
      refine thenC_n ?_
      refine CS.ret ?_
      refine blockC_r ?_
      refine thenC_r ?_
      refine retQ.mk (H' := []) (.inr rfl) (RVs.tmp (by rfl) RVs.nil) (List.nil_sublist _) ?_
      exact ⟨congrArg iv (by unfold sec; first | (rw [if_pos (by omega)]; done) | (rw [if_neg (by omega), if_pos (by omega)]; done) | (rw [if_neg (by omega), if_neg (by omega)]; done)), rfl⟩
    · have hb1p := ne_of_beq_false hb1
      refine CS.seq ?_
      refine CS.region ?_
      refine RS.q rfl (QO.eql (by rfl) (by rfl)) ?_
      refine RS.q rfl (QO.assign) ?_
      refine RS.nil ?_
      refine thenC_n ?_
      refine CS.cond (by rfl) (fun hb2 => ?_) (fun hb2 => ?_)
      · have hb2p := eq_of_beq hb2
        refine CS.skip ?_
        refine thenC_n ?_
        refine CS.condT (by rfl) hb2 ?_
        refine CS.seq ?_
        refine CS.region ?_
        refine RS.q rfl (QO.move) ?_
        refine RS.q rfl (QO.assign) ?_
        refine RS.nil ?_
        refine thenC_n ?_
        refine CS.ret ?_
        refine blockC_r ?_
        refine thenC_r ?_
        refine retQ.mk (H' := []) (.inr rfl) (RVs.tmp (by rfl) RVs.nil) (List.nil_sublist _) ?_
        exact ⟨congrArg iv (by unfold sec; first | (rw [if_pos (by omega)]; done) | (rw [if_neg (by omega), if_pos (by omega)]; done) | (rw [if_neg (by omega), if_neg (by omega)]; done)), rfl⟩
      · have hb2p := ne_of_beq_false hb2
        refine CS.seq ?_
        refine CS.region ?_
        refine RS.q rfl (QO.eql (by rfl) (by rfl)) ?_
        refine RS.q rfl (QO.assign) ?_
        refine RS.nil ?_
        refine thenC_n ?_
        refine CS.cond (by rfl) (fun hb3 => ?_) (fun hb3 => ?_)
        · have hb3p := eq_of_beq hb3
          refine CS.skip ?_
          refine thenC_n ?_
          refine CS.condT (by rfl) hb3 ?_
          refine CS.seq ?_
          refine CS.region ?_
          refine RS.q rfl (QO.move) ?_
          refine RS.q rfl (QO.assign) ?_
          refine RS.nil ?_
          refine thenC_n ?_
          refine CS.ret ?_
          refine blockC_r ?_
          refine thenC_r ?_
          refine retQ.mk (H' := []) (.inr rfl) (RVs.tmp (by rfl) RVs.nil) (List.nil_sublist _) ?_
          exact ⟨congrArg iv (by unfold sec; first | (rw [if_pos (by omega)]; done) | (rw [if_neg (by omega), if_pos (by omega)]; done) | (rw [if_neg (by omega), if_neg (by omega)]; done)), rfl⟩
        · have hb3p := ne_of_beq_false hb3
          refine CS.seq ?_
          refine CS.region ?_
          refine RS.q rfl (QO.eql (by rfl) (by rfl)) ?_
          refine RS.q rfl (QO.assign) ?_
          refine RS.nil ?_
          refine thenC_n ?_
          refine CS.cond (by rfl) (fun hb4 => ?_) (fun hb4 => ?_)
          · have hb4p := eq_of_beq hb4
            refine CS.skip ?_
            refine thenC_n ?_
            refine CS.condT (by rfl) hb4 ?_
            refine CS.seq ?_
            refine CS.region ?_
            refine RS.q rfl (QO.move) ?_
            refine RS.q rfl (QO.assign) ?_
            refine RS.nil ?_
            refine thenC_n ?_
            refine CS.ret ?_
            refine blockC_r ?_
            refine thenC_r ?_
            refine retQ.mk (H' := []) (.inr rfl) (RVs.tmp (by rfl) RVs.nil) (List.nil_sublist _) ?_
            exact ⟨congrArg iv (by unfold sec; first | (rw [if_pos (by omega)]; done) | (rw [if_neg (by omega), if_pos (by omega)]; done) | (rw [if_neg (by omega), if_neg (by omega)]; done)), rfl⟩
          · have hb4p := ne_of_beq_false hb4
            refine CS.region ?_
            refine RS.q rfl (QO.eql (by rfl) (by rfl)) ?_
            refine RS.q rfl (QO.assign) ?_
            refine RS.nil ?_
            refine thenC_n ?_
            refine CS.cond (by rfl) (fun hb5 => ?_) (fun hb5 => ?_)
            · have hb5p := eq_of_beq hb5
              refine CS.seq ?_
              refine CS.region ?_
              refine RS.q rfl (QO.move) ?_
              refine RS.q rfl (QO.assign) ?_
              refine RS.nil ?_
              refine thenC_n ?_
              refine CS.ret ?_
              refine blockC_r ?_
              refine thenC_r ?_
              refine retQ.mk (H' := []) (.inr rfl) (RVs.tmp (by rfl) RVs.nil) (List.nil_sublist _) ?_
              exact ⟨congrArg iv (by unfold sec; first | (rw [if_pos (by omega)]; done) | (rw [if_neg (by omega), if_pos (by omega)]; done) | (rw [if_neg (by omega), if_neg (by omega)]; done)), rfl⟩
            · have hb5p := ne_of_beq_false hb5
              refine CS.seq ?_
              refine CS.region ?_
              refine RS.q rfl (QO.eql (by rfl) (by rfl)) ?_
              refine RS.q rfl (QO.assign) ?_
              refine RS.nil ?_
              refine thenC_n ?_
              refine CS.cond (by rfl) (fun hb6 => ?_) (fun hb6 => ?_)
              · have hb6p := eq_of_beq hb6
                refine CS.seq ?_
                refine CS.region ?_
                refine RS.q rfl (QO.assign) ?_
                refine RS.nil ?_
                refine thenC_n ?_
                refine CS.ret ?_
                refine blockC_r ?_
                refine thenC_r ?_
                refine retQ.mk (H' := []) (.inr rfl) (RVs.tmp (by rfl) RVs.nil) (List.nil_sublist _) ?_
                exact ⟨congrArg iv (by unfold sec; first | (rw [if_pos (by omega)]; done) | (rw [if_neg (by omega), if_pos (by omega)]; done) | (rw [if_neg (by omega), if_neg (by omega)]; done)), rfl⟩
              · have hb6p := ne_of_beq_false hb6
                refine CS.skip ?_
                refine blockC_n ?_
                refine thenC_n ?_
                refine CS.seq ?_
                refine CS.region ?_
                refine RS.q rfl (QO.assign) ?_
                refine RS.nil ?_
                refine thenC_n ?_
                refine CS.ret ?_
                refine retQ.mk (H' := []) (.inr rfl) (RVs.tmp (by rfl) RVs.nil) (List.nil_sublist _) ?_
                exact ⟨congrArg iv (by unfold sec; first | (rw [if_pos (by omega)]; done) | (rw [if_neg (by omega), if_pos (by omega)]; done) | (rw [if_neg (by omega), if_neg (by omega)]; done)), rfl⟩

theorem cont_T {xs : List Int} {x : Int} {i : Nat} (hi : i < xs.length) (h : x = xs[i]) : xs.contains x = true := by
  rw [List.contains_iff_mem, h]; exact List.getElem_mem _
theorem cont_F {xs : List Int} {x : Int} (h : ∀ i (hi : i < xs.length), x ≠ xs[i]) : xs.contains x = false := by
  rw [Bool.eq_false_iff]
  intro hc
  rw [List.contains_iff_mem, List.mem_iff_getElem] at hc
  obtain ⟨i, hi, e⟩ := hc
  exact h i hi e.symm

set_option maxRecDepth 100000 in
theorem index_ (g : Nat) (xs : List Int) (n c : Nat) (x : Int) (W : World) (hn : xs.length = n) (hm : n ≤ maxLen) (hcell : ∀ i y, xs[i]? = some y → W.cell? ⟨g, i, none⟩ = some (iv y)) : Fn_ Tryd.prog 162 #[.slice (some ⟨g, 0, none⟩) n c, iv x] W (fun v H => ∃ k : Int, v = iv k ∧ decide (0 ≤ k) = xs.contains x ∧ H = []) := by
  subst hn
  unfold maxLen at hm
  refine Fn_.intro Tryd.func162 rfl rfl (by rfl) ?_
  refine CS.seq ?_
  refine CS.region ?_
  refine RS.q rfl (QO.assign) ?_
  refine RS.nil ?_
  refine thenC_n ?_
  refine CS.seq ?_
  refine CS.seq ?_
  refine CS.region ?_
  refine RS.q rfl (QO.move) ?_
  refine RS.q rfl (QO.lenS Tryd.underlying22 (by rfl)) ?_
  refine RS.q rfl (QO.move) ?_
  refine RS.nil ?_
  refine thenC_n ?_
  refine CS.block ?_
  refine CS.loop (X := Nat) (4 :: 5 :: 8 :: 9 :: 10 :: 11 :: 12 :: 13 :: 14 :: 15 :: 16 :: 17 :: 18 :: []) (fun k => [(8, iv (k : Int))]) (fun k => []) (fun k => k ≤ xs.length ∧ ∀ i (hi : i < xs.length), i < k → x ≠ xs[i]) (fun k => xs.length - k) 0 ⟨Nat.zero_le _, fun i _ h => absurd h (Nat.not_lt_zero _)⟩ ?_ ?_ ?_
  · exact (by repeat (first | exact kn_nil | refine kn_cons (by rfl) ?_))
  · exact (by repeat (first | exact List.Sublist.refl _ | exact List.nil_sublist _ | refine List.Sublist.cons_cons _ ?_ | refine List.Sublist.cons _ ?_ | exact Sbp.refl | exact Sbp.nil | refine Sbp.cons (by repeat (first | exact Rem.head | apply Rem.tail)) ?_ | exact Sbp.app | refine Sbp.skip ?_))
  · intro k gj2 hz
    obtain ⟨hk, hz⟩ := hz
    refine CS.seq ?_
    refine CS.region ?_
    refine RS.q rfl (QO.lss (by rfl) (by rfl)) ?_
    refine RS.nil ?_
    refine thenC_n ?_
    refine CS.seq ?_
    refine CS.cond (by rfl) (fun hb0 => ?_) (fun hb0 => ?_)
    · have hb0p := of_decide_eq_true hb0
      refine CS.skip ?_
      refine thenC_n ?_
      refine CS.seq ?_
      refine CS.block ?_
      refine CS.seq ?_
      refine CS.region ?_
      refine RS.q rfl (QO.move) ?_
      refine RS.q rfl (QO.assign) ?_
      refine RS.nil ?_
      refine thenC_n ?_
      refine CS.seq ?_
      refine CS.region ?_
      refine RS.q rfl (QO.move) ?_
      refine RS.q rfl (QO.move) ?_
      refine RS.q rfl (QO.move) ?_
      first | (refine RS.q rfl (QO.idx0 Tryd.underlying22 ty3 (by rfl) (by rfl) (by rfl) (by omega)) ?_) | (refine RS.q rfl (QO.idxn Tryd.underlying22 ty3 (by rfl) (by rfl) (by rfl) (by omega)) ?_) | (refine RS.q rfl (QO.idx1 Tryd.underlying22 ty3 (by rfl) (by rfl) (by omega) (by omega)) ?_)
      refine RS.q rfl (QO.loadO ty3 (by rfl) (hcell k _ (List.getElem?_eq_getElem (show k < xs.length by omega)))) ?_
      refine RS.q rfl (QO.eql (by rfl) (by rfl)) ?_
      refine RS.nil ?_
      refine thenC_n ?_
      refine CS.cond (by rfl) (fun hb1 => ?_) (fun hb1 => ?_)
      · have hb1p := eq_of_beq hb1
        refine CS.seq ?_
        refine CS.region ?_
        refine RS.q rfl (QO.move) ?_
        refine RS.q rfl (QO.assign) ?_
        refine RS.nil ?_
        refine thenC_n ?_
        refine CS.ret ?_
        refine blockC_r ?_
        refine thenC_r ?_
        refine loopQ_r ?_
        refine blockC_r ?_
        refine thenC_r ?_
        refine retQ.mk (H' := []) (.inr rfl) (RVs.tmp (by rfl) RVs.nil) (List.nil_sublist _) ?_
        exact ⟨(k : Int), rfl, by rw [cont_T (show k < xs.length by omega) hb1p]; exact decide_eq_true (by omega), rfl⟩
      · have hb1p := ne_of_beq_false hb1
        refine CS.skip ?_
        refine blockC_n ?_
        refine thenC_n ?_
        refine CS.region ?_
        first | (refine RS.q rfl (QO.add (by rfl) (by rfl) (by omega) (by omega)) ?_) | (refine RS.q rfl (QO.ibin (by rfl) (by rfl) trivial) ?_)
        refine RS.q rfl (QO.move) ?_
        refine RS.nil ?_
        refine loopQ_n (by intro t ht; repeat (first | with_reducible exact rfl | exact frame_puts ht (frame_mix ht) _ rfl | (refine frame_put rfl ht ?_) | (refine frame_puts ht ?_ _ rfl) | exact frame_mix ht | (refine frame_mix2 rfl ht ?_) | exact rfl)) ?_
        exact ⟨k + 1, ⟨by omega, fun i hi h => by
            by_cases e : i = k
            · subst e; exact hb1p
            · exact hz i hi (by omega)⟩, by omega, (by repeat (first | exact kn_nil | refine kn_cons (by rfl) ?_)), (by repeat (first | exact List.Sublist.refl _ | exact List.nil_sublist _ | refine List.Sublist.cons_cons _ ?_ | refine List.Sublist.cons _ ?_ | exact Sbp.refl | exact Sbp.nil | refine Sbp.cons (by repeat (first | exact Rem.head | apply Rem.tail)) ?_ | exact Sbp.app | refine Sbp.skip ?_))⟩
    · have hb0p := of_decide_eq_false hb0
      refine CS.exit ?_
      refine thenC_x ?_
      refine loopQ_x ?_
      refine blockC_x ?_
      refine thenC_n ?_
      refine CS.seq ?_
      refine CS.region ?_
      refine RS.q rfl (QO.assign) ?_
      refine RS.nil ?_
      refine thenC_n ?_
      refine CS.ret ?_
      refine retQ.mk (H' := []) (.inr rfl) (RVs.tmp (by rfl) RVs.nil) (List.nil_sublist _) ?_
      exact ⟨-1, rfl, by rw [cont_F (fun i hi => hz i hi (by omega))]; rfl, rfl⟩

set_option maxRecDepth 100000 in
theorem contains_ (g : Nat) (xs : List Int) (n c : Nat) (x : Int) (W : World) (hn : xs.length = n) (hm : n ≤ maxLen) (hcell : ∀ i y, xs[i]? = some y → W.cell? ⟨g, i, none⟩ = some (iv y)) : Fn_ Tryd.prog 138 #[.slice (some ⟨g, 0, none⟩) n c, iv x] W (fun v H => v = .bool (xs.contains x) ∧ H = []) := by
  refine Fn_.intro Tryd.func138 rfl rfl (by rfl) ?_
  refine CS.seq ?_
  refine CS.region ?_
  refine RS.q rfl (QO.assign) ?_
  refine RS.nil ?_
  refine thenC_n ?_
  refine CS.seq ?_
  refine CS.region ?_
  refine RS.q rfl (QO.move) ?_
  refine RS.q rfl (QO.move) ?_
  refine RS.call rfl (by rfl) ok162 (by rfl) (fun w ho => index_ g xs n c x _ hn hm (fun i y h => ho.old (hcell i y h))) ?_
  rintro _ _ ⟨kx, rfl, hkx, rfl⟩
  refine RS.qv rfl (QO.geq (by rfl) (by rfl)) (congrArg Value.bool hkx) ?_
  refine RS.q rfl (QO.assign) ?_
  refine RS.nil ?_
  refine thenC_n ?_
  refine CS.ret ?_
  refine retQ.mk (H' := []) (.inr rfl) (RVs.tmp (by rfl) RVs.nil) (List.nil_sublist _) ?_
  exact ⟨rfl, rfl⟩

theorem rate_in (r : Int) : [24, 25, 30, 48, 50, 60, 29].contains r = decide (sec r ≠ 0) := by
  rw [Bool.eq_iff_iff, List.contains_iff_mem, decide_eq_true_eq]
  constructor
  · intro h
    simp only [List.mem_cons, List.not_mem_nil, or_false] at h
    unfold sec
    split
    · omega
    · split <;> omega
  · intro h
    have := sec_cases h
    simp only [List.mem_cons, List.not_mem_nil, or_false]
    omega

set_option maxRecDepth 100000 in
theorem isRate (rate : Int) (W : World) : Fn_ Tryd.prog 93 #[iv rate] W (fun v H => v = .bool (decide (sec rate ≠ 0)) ∧ H = []) := by
  refine Fn_.intro Tryd.func93 rfl rfl (by rfl) ?_
  refine CS.seq ?_
  refine CS.region ?_
  refine RS.q rfl (QO.assign) ?_
  refine RS.nil ?_
  refine thenC_n ?_
  refine CS.seq ?_
  refine CS.region ?_
  refine RS.buildSlice rfl Tryd.underlying22 ty3 (by decide) (by decide) (by rfl) (by rfl) ?_
  intro g3
  refine RS.q rfl (QO.move) ?_
  refine RS.call rfl (by rfl) ok138 (by rfl) (fun w ho => contains_ g3 [24, 25, 30, 48, 50, 60, 29] 7 7 rate _ rfl (by decide) (fun i y hy => by rw [(ho.blk _ (List.Mem.head _)).2.cell]; show ([24, 25, 30, 48, 50, 60, 29].map iv)[i]? = some (iv y); rw [List.getElem?_map, hy]; rfl)) ?_
  rintro _ _ ⟨rfl, rfl⟩
  refine RS.q rfl (QO.assign) ?_
  refine RS.nil ?_
  refine thenC_n ?_
  refine CS.ret ?_
  refine retQ.mk (H' := []) (.inr rfl) (RVs.tmp (by rfl) RVs.nil) (List.nil_sublist _) ?_
  exact ⟨congrArg Value.bool (rate_in rate), rfl⟩

end Go.Proofs.YtapcgokcfmklbaaDoor

namespace Go.Proofs.YtapcgokcfmklbaaDoor
open Go Go.RowKit

/-- a byte of a name -/
def isNC (b : Nat) : Bool := decide ((97 ≤ b ∧ b ≤ 122) ∨ (65 ≤ b ∧ b ≤ 90) ∨ (48 ≤ b ∧ b ≤ 57) ∨ b = 45 ∨ b = 46 ∨ b = 95)
def nameCS : List UInt8 := 97 :: 98 :: 99 :: 100 :: 101 :: 102 :: 103 :: 104 :: 105 :: 106 :: 107 :: 108 :: 109 :: 110 :: 111 :: 112 :: 113 :: 114 :: 115 :: 116 :: 117 :: 118 :: 119 :: 120 :: 121 :: 122 :: 65 :: 66 :: 67 :: 68 :: 69 :: 70 :: 71 :: 72 :: 73 :: 74 :: 75 :: 76 :: 77 :: 78 :: 79 :: 80 :: 81 :: 82 :: 83 :: 84 :: 85 :: 86 :: 87 :: 88 :: 89 :: 90 :: 48 :: 49 :: 50 :: 51 :: 52 :: 53 :: 54 :: 55 :: 56 :: 57 :: 45 :: 46 :: 95 :: []
/-- is a byte in a list -/
def hasB (cs : List UInt8) (b : Nat) : Bool := cs.any fun c => c.toNat == b
theorem name_set : ∀ b : Nat, b < 256 → hasB nameCS b = isNC b := by decide +kernel
/-- a name -/
def nameB (l : List UInt8) : Bool := decide (l ≠ []) && decide (l.length ≤ 40) && l.all fun b => isNC b.toNat
/-- the table of the first k bytes -/
def asL (cs : List UInt8) (k : Nat) : List Value := (List.range 256).map fun b => .bool (hasB (cs.take k) b)
theorem asL_len (cs : List UInt8) (k : Nat) : (asL cs k).length = 256 := by simp [asL]
theorem asL_zero (cs : List UInt8) : asL cs 0 = List.replicate 256 (.bool false) := by
  unfold asL hasB
  simp only [List.take_zero, List.any_nil]
  apply List.ext_getElem
  · rw [List.length_map, List.length_range, List.length_replicate]
  · intro i h1 h2
    rw [List.getElem_map, List.getElem_replicate]
theorem asL_set {cs : List UInt8} {k : Nat} (hk : k < cs.length) : (asL cs k).set (cs.getD k 0).toNat (.bool true) = asL cs (k + 1) := by
  apply List.ext_getElem
  · simp [asL]
  · intro i h1 h2
    have hi : i < 256 := by simpa [asL] using h2
    rw [List.getElem_set]
    have e : hasB (cs.take (k + 1)) i = (hasB (cs.take k) i || (cs.getD k 0).toNat == i) := by
      unfold hasB
      rw [List.take_succ_eq_append_getElem hk, List.any_append, List.getD_eq_getElem?_getD, List.getElem?_eq_getElem hk]
      simp
    split
    · rename_i h
      simp only [asL, List.getElem_map, List.getElem_range]
      rw [e, h]; simp
    · rename_i h
      simp only [asL, List.getElem_map, List.getElem_range]
      rw [e]
      have : ((cs.getD k 0).toNat == i) = false := by simpa using h
      rw [this, Bool.or_false]
theorem asL_at {cs : List UInt8} {k b : Nat} (h : b < 256) : (asL cs k)[b]? = some (.bool (hasB (cs.take k) b)) := by simp [asL, h]
theorem asL_one (cs : List UInt8) (k : Nat) : (asL cs k).all (·.oneCell') = true := by
  rw [List.all_eq_true]
  intro v hv
  obtain ⟨b, _, rfl⟩ := List.mem_map.1 hv
  rfl
theorem all_drop_last {f : UInt8 → Bool} {l : List UInt8} (h : 0 < l.length) (hf : f (l.getD (l.length - 1) 0) = true) : (l.take (l.length - 1)).all f = l.all f := by
  have e : l = l.take (l.length - 1) ++ [l.getD (l.length - 1) 0] := by
    rw [List.getD_eq_getElem?_getD, List.getElem?_eq_getElem (by omega)]
    have := List.take_succ_eq_append_getElem (l := l) (i := l.length - 1) (by omega)
    rw [show l.length - 1 + 1 = l.length by omega, List.take_length] at this
    exact this
  conv => rhs; rw [e]
  rw [List.all_append]
  simp only [List.all_cons, List.all_nil, Bool.and_true]
  rw [hf, Bool.and_true]
theorem all_drop_first {f : UInt8 → Bool} {l : List UInt8} (h : 0 < l.length) (hf : f (l.getD 0 0) = true) : (l.drop 1).all f = l.all f := by
  cases l with
  | nil => simp at h
  | cons a l =>
    have h2 : f a = true := hf
    simp only [List.drop_succ_cons, List.drop_zero, List.all_cons, h2, Bool.true_and]
theorem first_not {f : UInt8 → Bool} {l : List UInt8} (h : 0 < l.length) (hf : f (l.getD 0 0) = false) : l = [] ↔ l.all f = true := by
  cases l with
  | nil => simp at h
  | cons a l =>
    have h2 : f a = false := hf
    simp [h2]
theorem nil_all {f : UInt8 → Bool} {l : List UInt8} (h : ¬ 0 < l.length) : l = [] ↔ l.all f = true := by
  cases l with
  | nil => simp
  | cons a l => simp at h
theorem Own.cellG {W w : World} {H : HL} (ho : Own W w H) {g : Nat} {t : TypeId} {cs : List Value} (hm : (⟨g, t, cs⟩ : B) ∈ H) {i : Nat} {v : Value} (h : cs[i]? = some v) : w.cell? ⟨g, i, none⟩ = some v :=
  ((ho.blk _ hm).2.cell i).trans h
theorem byte_at {l : List UInt8} {i : Nat} (h : i < l.length) : l[((i : Nat) : Int).toNat]? = some (l.getD i 0) := by
  rw [Int.toNat_natCast, List.getD_eq_getElem?_getD, List.getElem?_eq_getElem h]; rfl
end Go.Proofs.YtapcgokcfmklbaaDoor

namespace Go.Proofs.YtapcgokcfmklbaaDoor
open Go Go.Proofs Go.RowKit

theorem ty4 : tyChk Tryd.prog 4 = some ([.bool false], false, 1) := by kernel_rfl
theorem ty177 : tyChk Tryd.prog 177 = some (List.replicate 256 (.bool false), true, 256) := by kernel_rfl
theorem ok128 : callOK Tryd.prog 128 = true := by kernel_rfl
theorem ok129 : callOK Tryd.prog 129 = true := by kernel_rfl
theorem ok144 : callOK Tryd.prog 144 = true := by kernel_rfl
theorem ok157 : callOK Tryd.prog 157 = true := by kernel_rfl
theorem ok190 : callOK Tryd.prog 190 = true := by kernel_rfl

set_option maxRecDepth 100000 in
theorem makeSet (cs : List UInt8) (W : World) (hc : ∀ k, k < cs.length → (cs.getD k 0).toNat < 128) (hl : cs.length ≤ 100000) : Fn_ Tryd.prog 128 #[sv cs] W (fun v H => v = .tuple #[.agg (asL cs cs.length).toArray, .bool true] ∧ H = []) := by
  refine Fn_.intro Tryd.func128 rfl rfl (by rfl) ?_
  refine CS.seq ?_
  refine CS.region ?_
  refine RS.alloc rfl ty177 ?_
  intro g2
  refine RS.q rfl (QO.assign) ?_
  refine RS.nil ?_
  refine thenC_n ?_
  refine CS.seq ?_
  refine CS.seq ?_
  refine CS.region ?_
  refine RS.q rfl (QO.assign) ?_
  refine RS.nil ?_
  refine thenC_n ?_
  refine CS.block ?_
  refine CS.loop (X := Nat) (3 :: 4 :: 5 :: 6 :: 7 :: 8 :: 9 :: 10 :: 11 :: 12 :: 13 :: 14 :: 15 :: 16 :: 17 :: 18 :: 19 :: []) (fun k => [(4, iv (k : Int))]) (fun k => [⟨g2, 177, asL cs k⟩]) (fun k => k ≤ cs.length) (fun k => cs.length - k) 0 (Nat.zero_le _) ?_ ?_ ?_
  · exact (by repeat (first | exact kn_nil | refine kn_cons (by rfl) ?_))
  · exact (by rw [asL_zero]; exact (by repeat (first | exact List.Sublist.refl _ | exact List.nil_sublist _ | refine List.Sublist.cons_cons _ ?_ | refine List.Sublist.cons _ ?_ | exact Sbp.refl | exact Sbp.nil | refine Sbp.cons (by repeat (first | exact Rem.head | apply Rem.tail)) ?_ | exact Sbp.app | refine Sbp.skip ?_)))
  intro k gj2 hz
  refine CS.seq ?_
  refine CS.seq ?_
  refine CS.region ?_
  refine RS.q rfl (QO.move) ?_
  refine RS.q rfl (QO.move) ?_
  refine RS.q rfl (QO.lenStr Tryd.underlying9 (by rfl)) ?_
  refine RS.q rfl (QO.lss (by rfl) (by rfl)) ?_
  refine RS.nil ?_
  refine thenC_n ?_
  refine CS.cond (by rfl) (fun hb0 => ?_) (fun hb0 => ?_)
  · have hb0p := of_decide_eq_true hb0
    refine CS.skip ?_
    refine thenC_n ?_
    refine CS.seq ?_
    refine CS.block ?_
    refine CS.seq ?_
    refine CS.region ?_
    refine RS.q rfl (QO.move) ?_
    refine RS.q rfl (QO.move) ?_
    refine RS.q rfl (QO.idxStr Tryd.underlying9 (by rfl) (by rfl) (by omega) (byte_at (i := k) (by omega))) ?_
    refine RS.q rfl (QO.assign) ?_
    refine RS.nil ?_
    refine thenC_n ?_
    refine CS.seq ?_
    refine CS.seq ?_
    refine CS.region ?_
    refine RS.q rfl (QO.move) ?_
    refine RS.q rfl (QO.geq (by rfl) (by rfl)) ?_
    refine RS.nil ?_
    refine thenC_n ?_
    refine CS.condF (by rfl) (decide_eq_false (by have := hc k (by omega); omega)) ?_
    refine CS.skip ?_
    refine thenC_n ?_
    refine CS.region ?_
    have hck := hc k (by omega)
    refine RS.q rfl (QO.move) ?_
    refine RS.q rfl (QO.idxArr0 Tryd.underlying177 ty4 (by rfl) (by rfl) (by rfl) (by omega)) ?_
    refine RS.store1e ty4 rfl (by rfl) (by rfl) (by rfl) (asL_set (by omega)) (by repeat (first | exact Upd.head | apply Upd.tail)) (by rw [asL_len]; omega) ?_
    refine RS.nil ?_
    refine blockC_n ?_
    refine thenC_n ?_
    refine CS.region ?_
    refine RS.q rfl (QO.move) ?_
    refine RS.q rfl (QO.add (by rfl) (by rfl) (by omega) (by omega)) ?_
    refine RS.q rfl (QO.assign) ?_
    refine RS.nil ?_
    refine loopQ_n (by intro t ht; repeat (first | with_reducible exact rfl | exact frame_puts ht (frame_mix ht) _ rfl | (refine frame_put rfl ht ?_) | (refine frame_puts ht ?_ _ rfl) | exact frame_mix ht | (refine frame_mix2 rfl ht ?_) | exact rfl)) ?_
    exact ⟨k + 1, by omega, by omega, (by repeat (first | exact kn_nil | refine kn_cons (by rfl) ?_)), (by repeat (first | exact List.Sublist.refl _ | exact List.nil_sublist _ | refine List.Sublist.cons_cons _ ?_ | refine List.Sublist.cons _ ?_ | exact Sbp.refl | exact Sbp.nil | refine Sbp.cons (by repeat (first | exact Rem.head | apply Rem.tail)) ?_ | exact Sbp.app | refine Sbp.skip ?_))⟩
  have hb0p := of_decide_eq_false hb0
  refine CS.exit ?_
  refine thenC_x ?_
  refine loopQ_x ?_
  refine blockC_x ?_
  refine thenC_n ?_
  refine CS.seq ?_
  refine CS.region ?_
  refine RS.q rfl (QO.loadB ty177 (by rfl) (by repeat (first | exact List.Mem.head _ | refine List.Mem.tail _ ?_)) (by rfl)) ?_
  refine RS.storeB ty177 (by rfl) (by rfl) (by rfl) (by rfl) (by rfl) (by repeat (first | exact Upd.head | apply Upd.tail)) (by rfl) ?_
  refine RS.q rfl (QO.assign) ?_
  refine RS.nil ?_
  refine thenC_n ?_
  refine CS.ret ?_
  refine retQ.mk (H' := []) (.inr rfl) (RVs.cellA ty177 (by rfl) (by repeat (first | exact List.Mem.head _ | refine List.Mem.tail _ ?_)) (by rfl) (RVs.tmp (by rfl) RVs.nil)) (List.nil_sublist _) ?_
  exact ⟨congrArg (fun n => Value.tuple #[.agg (asL cs n).toArray, .bool true]) (show k = cs.length by omega), rfl⟩

set_option maxRecDepth 100000 in
theorem contains1 (g c : Nat) (f : Nat → Bool) (W : World) (hb : c < 256) (hcell : ∀ b, b < 256 → W.cell? ⟨g, b, none⟩ = some (.bool (f b))) : Fn_ Tryd.prog 157 #[.pointer (some ⟨g, 0, none⟩), .int .u8 (c : Int)] W (fun v H => v = .bool (f c) ∧ H = []) := by
  refine Fn_.intro Tryd.func157 rfl rfl (by rfl) ?_
  refine CS.seq ?_
  refine CS.region ?_
  refine RS.q rfl (QO.assign) ?_
  refine RS.nil ?_
  refine thenC_n ?_
  refine CS.seq ?_
  refine CS.region ?_
  refine RS.q rfl (QO.move) ?_
  refine RS.q rfl (QO.move) ?_
  refine RS.q rfl (QO.nilchk (by rfl)) ?_
  refine RS.q rfl (QO.idxArr0 Tryd.underlying177 ty4 (by rfl) (by rfl) (by rfl) (by omega)) ?_
  refine RS.q rfl (QO.loadO ty4 (by rfl) (hcell c hb)) ?_
  refine RS.q rfl (QO.assign) ?_
  refine RS.nil ?_
  refine thenC_n ?_
  refine CS.ret ?_
  refine retQ.mk (H' := []) (.inr rfl) (RVs.tmp (by rfl) RVs.nil) (List.nil_sublist _) ?_
  exact ⟨rfl, rfl⟩

set_option maxRecDepth 100000 in
theorem trimR (l : List UInt8) (g : Nat) (f : Nat → Bool) (W : World) (hl : l.length ≤ maxLen) (hcell : ∀ b, b < 256 → W.cell? ⟨g, b, none⟩ = some (.bool (f b))) : Fn_ Tryd.prog 129 #[sv l, .pointer (some ⟨g, 0, none⟩)] W (fun v H => ∃ m, v = sv m ∧ m.all (fun b : UInt8 => f b.toNat) = l.all (fun b : UInt8 => f b.toNat) ∧ m.length ≤ l.length ∧ H = []) := by
  unfold maxLen at hl
  refine Fn_.intro Tryd.func129 rfl rfl (by rfl) ?_
  refine CS.seq ?_
  refine CS.region ?_
  refine RS.q rfl (QO.assign) ?_
  refine RS.nil ?_
  refine thenC_n ?_
  refine CS.seq ?_
  refine CS.block ?_
  refine CS.loop (X := List UInt8) (0 :: 5 :: 6 :: 7 :: 8 :: 9 :: 10 :: 11 :: 12 :: 13 :: 14 :: 15 :: 16 :: 17 :: 18 :: 19 :: 20 :: []) (fun z => [(0, sv z)]) (fun z => []) (fun z => z.all (fun b : UInt8 => f b.toNat) = l.all (fun b : UInt8 => f b.toNat) ∧ z.length ≤ l.length) (fun z => z.length) l ⟨rfl, Nat.le_refl _⟩ ?_ ?_ ?_
  · exact (by repeat (first | exact kn_nil | refine kn_cons (by rfl) ?_))
  · exact (by repeat (first | exact List.Sublist.refl _ | exact List.nil_sublist _ | refine List.Sublist.cons_cons _ ?_ | refine List.Sublist.cons _ ?_ | exact Sbp.refl | exact Sbp.nil | refine Sbp.cons (by repeat (first | exact Rem.head | apply Rem.tail)) ?_ | exact Sbp.app | refine Sbp.skip ?_))
  intro z gj1 hz
  obtain ⟨hz1, hz2⟩ := hz
  refine CS.seq ?_
  refine CS.seq ?_
  refine CS.region ?_
  refine RS.q rfl (QO.move) ?_
  refine RS.q rfl (QO.lenStr Tryd.underlying9 (by rfl)) ?_
  refine RS.q rfl (QO.gtr (by rfl) (by rfl)) ?_
  refine RS.nil ?_
  refine thenC_n ?_
  refine CS.cond (by rfl) (fun hb0 => ?_) (fun hb0 => ?_)
  · have hb0p := of_decide_eq_true hb0
    refine CS.skip ?_
    refine thenC_n ?_
    refine CS.block ?_
    refine CS.seq ?_
    refine CS.seq ?_
    refine CS.region ?_
    refine RS.q rfl (QO.move) ?_
    refine RS.q rfl (QO.move) ?_
    refine RS.q rfl (QO.move) ?_
    refine RS.q rfl (QO.lenStr Tryd.underlying9 (by rfl)) ?_
    refine RS.qv rfl (QO.sub (by rfl) (by rfl) (by omega) (by omega)) (congrArg iv (show (z.length : Int) - 1 = ((z.length - 1 : Nat) : Int) by omega)) ?_
    refine RS.q rfl (QO.idxStr Tryd.underlying9 (by rfl) (by rfl) (by omega) (byte_at (i := z.length - 1) (by omega))) ?_
    refine RS.call rfl (by rfl) ok157 (by rfl) (fun w ho => contains1 g _ f _ (z.getD (z.length - 1) 0).toNat_lt (fun b hb => ho.old (hcell b hb))) ?_
    rintro _ _ ⟨rfl, rfl⟩
    refine RS.q rfl (QO.not (by rfl)) ?_
    refine RS.nil ?_
    refine thenC_n ?_
    refine CS.cond (by rfl) (fun hb1 => ?_) (fun hb1 => ?_)
    · have hb1p := Eq.mp (Bool.not_eq_true' _) hb1
      refine CS.exit ?_
      refine thenC_x ?_
      refine blockC_y rfl ?_
      refine loopQ_x ?_
      refine blockC_x ?_
      refine thenC_n ?_
      refine CS.seq ?_
      refine CS.region ?_
      refine RS.q rfl (QO.move) ?_
      refine RS.q rfl (QO.assign) ?_
      refine RS.nil ?_
      refine thenC_n ?_
      refine CS.ret ?_
      refine retQ.mk (H' := []) (.inr rfl) (RVs.tmp (by rfl) RVs.nil) (List.nil_sublist _) ?_
      exact ⟨z, rfl, hz1, hz2, rfl⟩
    have hb1p := Eq.mp (Bool.not_eq_false' _) hb1
    refine CS.skip ?_
    refine thenC_n ?_
    refine CS.region ?_
    refine RS.q rfl (QO.move) ?_
    refine RS.q rfl (QO.move) ?_
    refine RS.q rfl (QO.lenStr Tryd.underlying9 (by rfl)) ?_
    refine RS.qv rfl (QO.sub (by rfl) (by rfl) (by omega) (by omega)) (congrArg iv (show (z.length : Int) - 1 = ((z.length - 1 : Nat) : Int) by omega)) ?_
    refine RS.q rfl (QO.cutStrHi (h := ((z.length - 1 : Nat) : Int)) Tryd.underlying9 (by rfl) (by rfl) (by omega) (by omega)) ?_
    refine RS.q rfl (QO.assign) ?_
    refine RS.nil ?_
    refine blockC_n ?_
    refine loopQ_n (by intro t ht; repeat (first | with_reducible exact rfl | exact frame_puts ht (frame_mix ht) _ rfl | (refine frame_put rfl ht ?_) | (refine frame_puts ht ?_ _ rfl) | exact frame_mix ht | (refine frame_mix2 rfl ht ?_) | exact rfl)) ?_
    exact ⟨z.take (z.length - 1), ⟨(all_drop_last (f := (fun b : UInt8 => f b.toNat)) (by omega) (by simpa using hb1p)).trans hz1, by rw [List.length_take]; omega⟩, by rw [List.length_take]; omega, (by repeat (first | exact kn_nil | refine kn_cons (by rfl) ?_)), (by repeat (first | exact List.Sublist.refl _ | exact List.nil_sublist _ | refine List.Sublist.cons_cons _ ?_ | refine List.Sublist.cons _ ?_ | exact Sbp.refl | exact Sbp.nil | refine Sbp.cons (by repeat (first | exact Rem.head | apply Rem.tail)) ?_ | exact Sbp.app | refine Sbp.skip ?_))⟩
  have hb0p := of_decide_eq_false hb0
  refine CS.exit ?_
  refine thenC_x ?_
  refine loopQ_x ?_
  refine blockC_x ?_
  refine thenC_n ?_
  refine CS.seq ?_
  refine CS.region ?_
  refine RS.q rfl (QO.move) ?_
  refine RS.q rfl (QO.assign) ?_
  refine RS.nil ?_
  refine thenC_n ?_
  refine CS.ret ?_
  refine retQ.mk (H' := []) (.inr rfl) (RVs.tmp (by rfl) RVs.nil) (List.nil_sublist _) ?_
  exact ⟨z, rfl, hz1, hz2, rfl⟩

set_option maxRecDepth 100000 in
theorem trimL (l : List UInt8) (g : Nat) (f : Nat → Bool) (W : World) (hl : l.length ≤ maxLen) (hcell : ∀ b, b < 256 → W.cell? ⟨g, b, none⟩ = some (.bool (f b))) : Fn_ Tryd.prog 190 #[sv l, .pointer (some ⟨g, 0, none⟩)] W (fun v H => ∃ m, v = sv m ∧ (m = [] ↔ l.all (fun b : UInt8 => f b.toNat) = true) ∧ H = []) := by
  unfold maxLen at hl
  refine Fn_.intro Tryd.func190 rfl rfl (by rfl) ?_
  refine CS.seq ?_
  refine CS.region ?_
  refine RS.q rfl (QO.assign) ?_
  refine RS.nil ?_
  refine thenC_n ?_
  refine CS.seq ?_
  refine CS.block ?_
  refine CS.loop (X := List UInt8) [0, 5, 6, 7, 8, 9, 10, 11, 12, 13, 14] (fun z => [(0, sv z)]) (fun z => []) (fun z => z.all (fun b : UInt8 => f b.toNat) = l.all (fun b : UInt8 => f b.toNat) ∧ z.length ≤ l.length) (fun z => z.length) l ⟨rfl, Nat.le_refl _⟩ ?_ ?_ ?_
  · exact (by repeat (first | exact kn_nil | refine kn_cons (by rfl) ?_))
  · exact (by repeat (first | exact List.Sublist.refl _ | exact List.nil_sublist _ | refine List.Sublist.cons_cons _ ?_ | refine List.Sublist.cons _ ?_ | exact Sbp.refl | exact Sbp.nil | refine Sbp.cons (by repeat (first | exact Rem.head | apply Rem.tail)) ?_ | exact Sbp.app | refine Sbp.skip ?_))
  intro z gj1 hz
  obtain ⟨hz1, hz2⟩ := hz
  refine CS.seq ?_
  refine CS.seq ?_
  refine CS.region ?_
  refine RS.q rfl (QO.move) ?_
  refine RS.q rfl (QO.lenStr Tryd.underlying9 (by rfl)) ?_
  refine RS.q rfl (QO.gtr (by rfl) (by rfl)) ?_
  refine RS.nil ?_
  refine thenC_n ?_
  refine CS.cond (by rfl) (fun hb0 => ?_) (fun hb0 => ?_)
  · have hb0p := of_decide_eq_true hb0
    refine CS.skip ?_
    refine thenC_n ?_
    refine CS.block ?_
    refine CS.seq ?_
    refine CS.seq ?_
    refine CS.region ?_
    refine RS.q rfl (QO.move) ?_
    refine RS.q rfl (QO.move) ?_
    refine RS.q rfl (QO.idxStr Tryd.underlying9 (by rfl) (by rfl) (by omega) (byte_at (i := 0) (by omega))) ?_
    refine RS.call rfl (by rfl) ok157 (by rfl) (fun w ho => contains1 g _ f _ (z.getD 0 0).toNat_lt (fun b hb => ho.old (hcell b hb))) ?_
    rintro _ _ ⟨rfl, rfl⟩
    refine RS.q rfl (QO.not (by rfl)) ?_
    refine RS.nil ?_
    refine thenC_n ?_
    refine CS.cond (by rfl) (fun hb1 => ?_) (fun hb1 => ?_)
    · have hb1p := Eq.mp (Bool.not_eq_true' _) hb1
      refine CS.exit ?_
      refine thenC_x ?_
      refine blockC_y rfl ?_
      refine loopQ_x ?_
      refine blockC_x ?_
      refine thenC_n ?_
      refine CS.seq ?_
      refine CS.region ?_
      refine RS.q rfl (QO.move) ?_
      refine RS.q rfl (QO.assign) ?_
      refine RS.nil ?_
      refine thenC_n ?_
      refine CS.ret ?_
      refine retQ.mk (H' := []) (.inr rfl) (RVs.tmp (by rfl) RVs.nil) (List.nil_sublist _) ?_
      exact ⟨z, rfl, by rw [← hz1]; exact first_not (by omega) (by simpa using hb1p), rfl⟩
    have hb1p := Eq.mp (Bool.not_eq_false' _) hb1
    refine CS.skip ?_
    refine thenC_n ?_
    refine CS.region ?_
    refine RS.q rfl (QO.move) ?_
    refine RS.q rfl (QO.cutStrLo (i := 1) Tryd.underlying9 (by rfl) (by rfl) (by omega) (by omega)) ?_
    refine RS.q rfl (QO.assign) ?_
    refine RS.nil ?_
    refine blockC_n ?_
    refine loopQ_n (by intro t ht; repeat (first | with_reducible exact rfl | exact frame_puts ht (frame_mix ht) _ rfl | (refine frame_put rfl ht ?_) | (refine frame_puts ht ?_ _ rfl) | exact frame_mix ht | (refine frame_mix2 rfl ht ?_) | exact rfl)) ?_
    exact ⟨z.drop 1, ⟨(all_drop_first (f := (fun b : UInt8 => f b.toNat)) (by omega) (by simpa using hb1p)).trans hz1, by rw [List.length_drop]; omega⟩, by rw [List.length_drop]; omega, (by repeat (first | exact kn_nil | refine kn_cons (by rfl) ?_)), (by repeat (first | exact List.Sublist.refl _ | exact List.nil_sublist _ | refine List.Sublist.cons_cons _ ?_ | refine List.Sublist.cons _ ?_ | exact Sbp.refl | exact Sbp.nil | refine Sbp.cons (by repeat (first | exact Rem.head | apply Rem.tail)) ?_ | exact Sbp.app | refine Sbp.skip ?_))⟩
  have hb0p := of_decide_eq_false hb0
  refine CS.exit ?_
  refine thenC_x ?_
  refine loopQ_x ?_
  refine blockC_x ?_
  refine thenC_n ?_
  refine CS.seq ?_
  refine CS.region ?_
  refine RS.q rfl (QO.move) ?_
  refine RS.q rfl (QO.assign) ?_
  refine RS.nil ?_
  refine thenC_n ?_
  refine CS.ret ?_
  refine retQ.mk (H' := []) (.inr rfl) (RVs.tmp (by rfl) RVs.nil) (List.nil_sublist _) ?_
  exact ⟨z, rfl, by rw [← hz1]; exact nil_all (by omega), rfl⟩

theorem name_128 : ∀ k, k < nameCS.length → (nameCS.getD k 0).toNat < 128 := by decide +kernel
theorem name_at {b : Nat} (h : b < 256) : (asL nameCS nameCS.length)[b]? = some (.bool (isNC b)) := by rw [asL_at h, List.take_length, name_set b h]

set_option maxRecDepth 100000 in
theorem trimN (l : List UInt8) (W : World) (hl : l.length ≤ maxLen) : Fn_ Tryd.prog 144 #[sv l, sv nameCS] W (fun v H => ∃ m, v = sv m ∧ (m = [] ↔ l.all (fun b : UInt8 => isNC b.toNat) = true) ∧ H = []) := by
  refine Fn_.intro Tryd.func144 rfl rfl (by rfl) ?_
  refine CS.seq ?_
  refine CS.region ?_
  refine RS.q rfl (QO.assign) ?_
  refine RS.nil ?_
  refine thenC_n ?_
  refine CS.seq ?_
  refine CS.seq ?_
  refine CS.region ?_
  refine RS.q rfl (QO.move) ?_
  refine RS.q rfl (QO.streq (by rfl) (by rfl)) ?_
  refine RS.q rfl (QO.move) ?_
  refine RS.split (dj := 9) (by rfl) (fun hb0 => ?_) (fun hb0 => ?_)
  · refine RS.off (dj := 9) rfl (.inl (congrArg Value.bool hb0)) (fun _ => rfl) rfl ?_
    refine RS.off (dj := 9) rfl (.inl (congrArg Value.bool hb0)) (fun _ => rfl) rfl ?_
    refine RS.q rfl (QO.pickT (by rfl) hb0 (by rfl)) ?_
    refine RS.nil ?_
    refine thenC_n ?_
    refine CS.condT (by rfl) rfl ?_
    refine CS.seq ?_
    refine CS.region ?_
    refine RS.q rfl (QO.move) ?_
    refine RS.q rfl (QO.assign) ?_
    refine RS.nil ?_
    refine thenC_n ?_
    refine CS.ret ?_
    refine thenC_r ?_
    refine retQ.mk (H' := []) (.inr rfl) (RVs.tmp (by rfl) RVs.nil) (List.nil_sublist _) ?_
    exact ⟨l, rfl, by have h9 : l = [] := (by simpa using hb0); rw [h9]; simp, rfl⟩
  refine RS.on (dj := 9) rfl (congrArg Value.bool hb0) ?_
  refine RS.q rfl (QO.move) ?_
  refine RS.on (dj := 9) rfl (congrArg Value.bool hb0) ?_
  refine RS.q rfl (QO.streq (by rfl) (by rfl)) ?_
  refine RS.q rfl (QO.pickF (by rfl) hb0 (by rfl)) ?_
  refine RS.nil ?_
  refine thenC_n ?_
  refine CS.condF (by rfl) rfl ?_
  refine CS.skip ?_
  refine thenC_n ?_
  refine CS.seq ?_
  refine CS.seq ?_
  refine CS.region ?_
  refine RS.q rfl (QO.move) ?_
  refine RS.q rfl (QO.lenStr Tryd.underlying9 (by rfl)) ?_
  refine RS.q rfl (QO.eql (by rfl) (by rfl)) ?_
  refine RS.q rfl (QO.move) ?_
  refine RS.off (dj := 17) rfl (.inl (congrArg Value.bool rfl)) (fun _ => rfl) rfl ?_
  refine RS.off (dj := 17) rfl (.inl (congrArg Value.bool rfl)) (fun _ => rfl) rfl ?_
  refine RS.off (dj := 17) rfl (.inl (congrArg Value.bool rfl)) (fun _ => rfl) rfl ?_
  refine RS.q rfl (QO.pickF (by rfl) rfl (by rfl)) ?_
  refine RS.nil ?_
  refine thenC_n ?_
  refine CS.condF (by rfl) rfl ?_
  refine CS.skip ?_
  refine thenC_n ?_
  refine CS.seq ?_
  refine CS.seq ?_
  refine CS.region ?_
  refine RS.q rfl (QO.move) ?_
  refine RS.call rfl (by rfl) ok128 (by rfl) (fun w ho => makeSet nameCS _ name_128 (by decide)) ?_
  rintro _ _ ⟨rfl, rfl⟩
  refine RS.q rfl (QO.move) ?_
  refine RS.q rfl (QO.extract (by rfl) (by rfl)) ?_
  refine RS.q rfl (QO.extract (by rfl) (by rfl)) ?_
  refine RS.alloc rfl ty177 ?_
  intro g5
  refine RS.storeB ty177 (by rfl) (by rfl) (vs := asL nameCS nameCS.length) rfl (by rw [asL_len, List.length_replicate]) (asL_one ..) (by repeat (first | exact Upd.head | apply Upd.tail)) (by rw [asL_len, List.length_replicate]) ?_
  refine RS.q rfl (QO.assign) ?_
  refine RS.nil ?_
  refine thenC_n ?_
  refine CS.seq ?_
  refine CS.region ?_
  refine RS.q rfl (QO.move) ?_
  refine RS.nil ?_
  refine thenC_n ?_
  refine CS.condT (by rfl) rfl ?_
  refine CS.seq ?_
  refine CS.region ?_
  refine RS.q rfl (QO.move) ?_
  refine RS.call rfl (by rfl) ok129 (by rfl) (fun w ho => trimR l g5 isNC _ hl (fun b hb => ho.cellG (by repeat (first | exact List.Mem.head _ | refine List.Mem.tail _ ?_)) (name_at hb))) ?_
  rintro _ _ ⟨m36, rfl, hm1, hm2, rfl⟩
  refine RS.call rfl (by rfl) ok190 (by rfl) (fun w ho => trimL m36 g5 isNC _ (Nat.le_trans hm2 hl) (fun b hb => ho.cellG (by repeat (first | exact List.Mem.head _ | refine List.Mem.tail _ ?_)) (name_at hb))) ?_
  rintro _ _ ⟨m37, rfl, hm3, rfl⟩
  refine RS.q rfl (QO.assign) ?_
  refine RS.nil ?_
  refine thenC_n ?_
  refine CS.ret ?_
  refine thenC_r ?_
  refine retQ.mk (H' := []) (.inr rfl) (RVs.tmp (by rfl) RVs.nil) (List.nil_sublist _) ?_
  exact ⟨m37, rfl, by rw [← hm1]; exact hm3, rfl⟩

theorem nameB_1 {l m : List UInt8} (h1 : (l != []) = true) (h2 : decide ((l.length : Int) ≤ 40) = true) (h : m = [] ↔ l.all (fun b => isNC b.toNat) = true) : (m == []) = nameB l := by
  unfold nameB
  have e1 : decide (l ≠ []) = true := decide_eq_true (by simpa using h1)
  have e2 : decide (l.length ≤ 40) = true := decide_eq_true (by have := of_decide_eq_true h2; omega)
  rw [e1, e2, Bool.true_and, Bool.true_and, Bool.eq_iff_iff, beq_iff_eq]
  exact h
theorem nameB_2 {l : List UInt8} (h2 : decide ((l.length : Int) ≤ 40) = false) : false = nameB l := by
  unfold nameB
  have e2 : decide (l.length ≤ 40) = false := decide_eq_false (by have := of_decide_eq_false h2; omega)
  rw [e2]; simp
theorem nameB_3 {l : List UInt8} (h1 : (l != []) = false) : false = nameB l := by
  unfold nameB
  have e1 : decide (l ≠ []) = false := decide_eq_false (by simpa using h1)
  rw [e1]; simp

set_option maxRecDepth 100000 in
theorem isName (l : List UInt8) (W : World) (hl : l.length ≤ maxLen) : Fn_ Tryd.prog 109 #[sv l] W (fun v H => v = .bool (nameB l) ∧ H = []) := by
  refine Fn_.intro Tryd.func109 rfl rfl (by rfl) ?_
  refine CS.seq ?_
  refine CS.region ?_
  refine RS.q rfl (QO.assign) ?_
  refine RS.nil ?_
  refine thenC_n ?_
  refine CS.seq ?_
  refine CS.region ?_
  refine RS.q rfl (QO.move) ?_
  refine RS.q rfl (QO.strne (by rfl) (by rfl)) ?_
  refine RS.q rfl (QO.move) ?_
  refine RS.split (dj := 5) (by rfl) (fun hb0 => ?_) (fun hb0 => ?_)
  · refine RS.on (dj := 5) rfl (congrArg Value.bool hb0) ?_
    refine RS.q rfl (QO.move) ?_
    refine RS.on (dj := 5) rfl (congrArg Value.bool hb0) ?_
    refine RS.q rfl (QO.lenStr Tryd.underlying9 (by rfl)) ?_
    refine RS.on (dj := 5) rfl (congrArg Value.bool hb0) ?_
    refine RS.q rfl (QO.leq (by rfl) (by rfl)) ?_
    refine RS.q rfl (QO.pickT (by rfl) hb0 (by rfl)) ?_
    refine RS.q rfl (QO.move) ?_
    refine RS.split (dj := 10) (by rfl) (fun hb1 => ?_) (fun hb1 => ?_)
    · have hb1p := of_decide_eq_true hb1
      refine RS.on (dj := 10) rfl (congrArg Value.bool hb1) ?_
      refine RS.q rfl (QO.move) ?_
      refine RS.on (dj := 10) rfl (congrArg Value.bool hb1) ?_
      refine RS.call rfl (by rfl) ok144 (by rfl) (fun w ho => trimN l _ hl) ?_
      rintro _ _ ⟨m12, rfl, hm12, rfl⟩
      refine RS.on (dj := 10) rfl (congrArg Value.bool hb1) ?_
      refine RS.q rfl (QO.streq (by rfl) (by rfl)) ?_
      refine RS.q rfl (QO.pickT (by rfl) hb1 (by rfl)) ?_
      refine RS.q rfl (QO.assign) ?_
      refine RS.nil ?_
      refine thenC_n ?_
      refine CS.ret ?_
      refine retQ.mk (H' := []) (.inr rfl) (RVs.tmp (by rfl) RVs.nil) (List.nil_sublist _) ?_
      exact ⟨congrArg Value.bool (by first | exact nameB_1 (by assumption) (by assumption) hm12 | exact nameB_2 (by assumption) | exact nameB_3 (by assumption)), rfl⟩
    have hb1p := of_decide_eq_false hb1
    refine RS.off (dj := 10) rfl (.inl (congrArg Value.bool hb1)) (fun _ => rfl) rfl ?_
    refine RS.off (dj := 10) rfl (.inl (congrArg Value.bool hb1)) (fun _ => rfl) rfl ?_
    refine RS.off (dj := 10) rfl (.inl (congrArg Value.bool hb1)) (fun _ => rfl) rfl ?_
    refine RS.q rfl (QO.pickF (by rfl) hb1 (by rfl)) ?_
    refine RS.q rfl (QO.assign) ?_
    refine RS.nil ?_
    refine thenC_n ?_
    refine CS.ret ?_
    refine retQ.mk (H' := []) (.inr rfl) (RVs.tmp (by rfl) RVs.nil) (List.nil_sublist _) ?_
    exact ⟨congrArg Value.bool (by first | exact nameB_1 (by assumption) (by assumption) hm12 | exact nameB_2 (by assumption) | exact nameB_3 (by assumption)), rfl⟩
  refine RS.off (dj := 5) rfl (.inl (congrArg Value.bool hb0)) (fun _ => rfl) rfl ?_
  refine RS.off (dj := 5) rfl (.inl (congrArg Value.bool hb0)) (fun _ => rfl) rfl ?_
  refine RS.off (dj := 5) rfl (.inl (congrArg Value.bool hb0)) (fun _ => rfl) rfl ?_
  refine RS.q rfl (QO.pickF (by rfl) hb0 (by rfl)) ?_
  refine RS.q rfl (QO.move) ?_
  refine RS.off (dj := 10) rfl (.inl (congrArg Value.bool rfl)) (fun _ => rfl) rfl ?_
  refine RS.off (dj := 10) rfl (.inl (congrArg Value.bool rfl)) (fun _ => rfl) rfl ?_
  refine RS.off (dj := 10) rfl (.inl (congrArg Value.bool rfl)) (fun _ => rfl) rfl ?_
  refine RS.q rfl (QO.pickF (by rfl) rfl (by rfl)) ?_
  refine RS.q rfl (QO.assign) ?_
  refine RS.nil ?_
  refine thenC_n ?_
  refine CS.ret ?_
  refine retQ.mk (H' := []) (.inr rfl) (RVs.tmp (by rfl) RVs.nil) (List.nil_sublist _) ?_
  exact ⟨congrArg Value.bool (by first | exact nameB_1 (by assumption) (by assumption) hm12 | exact nameB_2 (by assumption) | exact nameB_3 (by assumption)), rfl⟩

theorem nc_yes {b : Nat} (h : (97 ≤ (b : Int) ∧ (b : Int) ≤ 122) ∨ (65 ≤ (b : Int) ∧ (b : Int) ≤ 90) ∨ (48 ≤ (b : Int) ∧ (b : Int) ≤ 57) ∨ (b : Int) = 45 ∨ (b : Int) = 46 ∨ (b : Int) = 95) : isNC b = true := decide_eq_true (by omega)
theorem nc_no {b : Nat} (h : ¬ ((97 ≤ (b : Int) ∧ (b : Int) ≤ 122) ∨ (65 ≤ (b : Int) ∧ (b : Int) ≤ 90) ∨ (48 ≤ (b : Int) ∧ (b : Int) ≤ 57) ∨ (b : Int) = 45 ∨ (b : Int) = 46 ∨ (b : Int) = 95)) : isNC b = false := decide_eq_false (by omega)
theorem nameB_4 {l : List UInt8} {k : Nat} (hk : k < l.length) (h : isNC (l.getD k 0).toNat = false) : false = nameB l := by
  have : l.all (fun b => isNC b.toNat) = false := by
    rw [List.all_eq_false]
    refine ⟨l[k], List.getElem_mem _, ?_⟩
    rw [List.getD_eq_getElem?_getD, List.getElem?_eq_getElem hk, Option.getD_some] at h
    simp [h]
  unfold nameB; rw [this, Bool.and_false]
theorem nameB_5 {l : List UInt8} (h1 : (l == []) = false) (h2 : ¬ 40 < (l.length : Int)) (h : ∀ k, k < l.length → isNC (l.getD k 0).toNat = true) : true = nameB l := by
  have : l.all (fun b => isNC b.toNat) = true := by
    rw [List.all_eq_true]
    intro b hb
    obtain ⟨k, hk, rfl⟩ := List.mem_iff_getElem.1 hb
    have := h k hk
    rwa [List.getD_eq_getElem?_getD, List.getElem?_eq_getElem hk, Option.getD_some] at this
  unfold nameB
  have e1 : decide (l ≠ []) = true := decide_eq_true (by simpa using h1)
  have e2 : decide (l.length ≤ 40) = true := decide_eq_true (by omega)
  rw [this, e1, e2]; rfl
theorem nameB_6 {l : List UInt8} (h : (l == []) = true) : false = nameB l := nameB_3 (by simpa using h)
theorem nameB_7 {l : List UInt8} (h : 40 < (l.length : Int)) : false = nameB l := nameB_2 (decide_eq_false (by omega))

set_option maxHeartbeats 4000000 in
set_option maxRecDepth 100000 in
theorem risName (l : List UInt8) (W : World) (hl : l.length ≤ maxLen) : Fn_ Tryd.prog 101 #[sv l] W (fun v H => v = .bool (nameB l) ∧ H = []) := by
  unfold maxLen at hl
  refine Fn_.intro Tryd.func101 rfl rfl (by rfl) ?_
  refine CS.seq ?_
  refine CS.region ?_
  refine RS.q rfl (QO.assign) ?_
  refine RS.nil ?_
  refine thenC_n ?_
  refine CS.seq ?_
  refine CS.seq ?_
  refine CS.region ?_
  refine RS.q rfl (QO.move) ?_
  refine RS.q rfl (QO.streq (by rfl) (by rfl)) ?_
  refine RS.q rfl (QO.move) ?_
  refine RS.split (dj := 7) (by rfl) (fun hb0 => ?_) (fun hb0 => ?_)
  · refine RS.off (dj := 7) rfl (.inl (congrArg Value.bool hb0)) (fun _ => rfl) rfl ?_
    refine RS.off (dj := 7) rfl (.inl (congrArg Value.bool hb0)) (fun _ => rfl) rfl ?_
    refine RS.off (dj := 7) rfl (.inl (congrArg Value.bool hb0)) (fun _ => rfl) rfl ?_
    refine RS.q rfl (QO.pickT (by rfl) hb0 (by rfl)) ?_
    refine RS.nil ?_
    refine thenC_n ?_
    refine CS.condT (by rfl) rfl ?_
    refine CS.seq ?_
    refine CS.region ?_
    refine RS.q rfl (QO.assign) ?_
    refine RS.nil ?_
    refine thenC_n ?_
    refine CS.ret ?_
    refine thenC_r ?_
    refine retQ.mk (H' := []) (.inr rfl) (RVs.tmp (by rfl) RVs.nil) (List.nil_sublist _) ?_
    exact ⟨congrArg Value.bool (by first | exact nameB_6 (by assumption) | exact nameB_7 (by assumption) | exact nameB_4 (k := k) (by omega) (nc_no (by omega)) | exact nameB_5 (by assumption) (by assumption) (fun j hj => hall j (by omega))), rfl⟩
  refine RS.on (dj := 7) rfl (congrArg Value.bool hb0) ?_
  refine RS.q rfl (QO.move) ?_
  refine RS.on (dj := 7) rfl (congrArg Value.bool hb0) ?_
  refine RS.q rfl (QO.lenStr Tryd.underlying9 (by rfl)) ?_
  refine RS.on (dj := 7) rfl (congrArg Value.bool hb0) ?_
  refine RS.q rfl (QO.gtr (by rfl) (by rfl)) ?_
  refine RS.q rfl (QO.pickF (by rfl) hb0 (by rfl)) ?_
  refine RS.nil ?_
  refine thenC_n ?_
  refine CS.cond (by rfl) (fun hb1 => ?_) (fun hb1 => ?_)
  · have hb1p := of_decide_eq_true hb1
    refine CS.seq ?_
    refine CS.region ?_
    refine RS.q rfl (QO.assign) ?_
    refine RS.nil ?_
    refine thenC_n ?_
    refine CS.ret ?_
    refine thenC_r ?_
    refine retQ.mk (H' := []) (.inr rfl) (RVs.tmp (by rfl) RVs.nil) (List.nil_sublist _) ?_
    exact ⟨congrArg Value.bool (by first | exact nameB_6 (by assumption) | exact nameB_7 (by assumption) | exact nameB_4 (k := k) (by omega) (nc_no (by omega)) | exact nameB_5 (by assumption) (by assumption) (fun j hj => hall j (by omega))), rfl⟩
  have hb1p := of_decide_eq_false hb1
  refine CS.skip ?_
  refine thenC_n ?_
  refine CS.seq ?_
  refine CS.seq ?_
  refine CS.region ?_
  refine RS.q rfl (QO.move) ?_
  refine RS.q rfl (QO.lenStr Tryd.underlying9 (by rfl)) ?_
  refine RS.q rfl (QO.move) ?_
  refine RS.nil ?_
  refine thenC_n ?_
  refine CS.block ?_
  refine CS.loop (X := Nat) (2 :: 3 :: 4 :: 14 :: 15 :: 16 :: 17 :: 18 :: 19 :: 20 :: 21 :: 22 :: 23 :: 24 :: 25 :: 26 :: 27 :: 28 :: 29 :: 30 :: 31 :: 32 :: 33 :: 34 :: 35 :: 36 :: 37 :: 38 :: 39 :: 40 :: 41 :: 42 :: 43 :: 44 :: 45 :: 46 :: 47 :: 48 :: 49 :: 50 :: 51 :: 52 :: 53 :: 54 :: []) (fun k => [(14, iv (k : Int))]) (fun k => []) (fun k => k ≤ l.length ∧ ∀ j, j < k → isNC (l.getD j 0).toNat = true) (fun k => l.length - k) 0 ⟨Nat.zero_le _, fun j h => absurd h (Nat.not_lt_zero _)⟩ ?_ ?_ ?_
  · exact (by repeat (first | exact kn_nil | refine kn_cons (by rfl) ?_))
  · exact (by repeat (first | exact List.Sublist.refl _ | exact List.nil_sublist _ | refine List.Sublist.cons_cons _ ?_ | refine List.Sublist.cons _ ?_ | exact Sbp.refl | exact Sbp.nil | refine Sbp.cons (by repeat (first | exact Rem.head | apply Rem.tail)) ?_ | exact Sbp.app | refine Sbp.skip ?_))
  intro k gj4 hz
  obtain ⟨hk, hall⟩ := hz
  refine CS.seq ?_
  refine CS.region ?_
  refine RS.q rfl (QO.lss (by rfl) (by rfl)) ?_
  refine RS.nil ?_
  refine thenC_n ?_
  refine CS.seq ?_
  refine CS.cond (by rfl) (fun hb2 => ?_) (fun hb2 => ?_)
  · have hb2p := of_decide_eq_true hb2
    refine CS.skip ?_
    refine thenC_n ?_
    refine CS.seq ?_
    refine CS.block ?_
    refine CS.seq ?_
    refine CS.region ?_
    refine RS.q rfl (QO.move) ?_
    refine RS.q rfl (QO.assign) ?_
    refine RS.nil ?_
    refine thenC_n ?_
    refine CS.seq ?_
    refine CS.region ?_
    refine RS.q rfl (QO.move) ?_
    refine RS.q rfl (QO.move) ?_
    refine RS.q rfl (QO.idxStr Tryd.underlying9 (by rfl) (by rfl) (by omega) (byte_at (i := k) (by omega))) ?_
    refine RS.q rfl (QO.assign) ?_
    refine RS.nil ?_
    refine thenC_n ?_
    refine CS.seq ?_
    refine CS.region ?_
    refine RS.q rfl (QO.move) ?_
    refine RS.q rfl (QO.lss (by rfl) (by rfl)) ?_
    refine RS.q rfl (QO.move) ?_
    refine RS.split (dj := 22) (by rfl) (fun hb3 => ?_) (fun hb3 => ?_)
    · have hb3p := of_decide_eq_true hb3
      refine RS.off (dj := 22) rfl (.inl (congrArg Value.bool hb3)) (fun _ => rfl) rfl ?_
      refine RS.off (dj := 22) rfl (.inl (congrArg Value.bool hb3)) (fun _ => rfl) rfl ?_
      refine RS.q rfl (QO.pickT (by rfl) hb3 (by rfl)) ?_
      refine RS.q rfl (QO.move) ?_
      refine RS.on (dj := 26) rfl (congrArg Value.bool rfl) ?_
      refine RS.q rfl (QO.move) ?_
      refine RS.on (dj := 26) rfl (congrArg Value.bool rfl) ?_
      refine RS.q rfl (QO.lss (by rfl) (by rfl)) ?_
      refine RS.on (dj := 26) rfl (congrArg Value.bool rfl) ?_
      refine RS.q rfl (QO.move) ?_
      refine RS.split (dj := 29) (by rfl) (fun hb4 => ?_) (fun hb4 => ?_)
      · have hb4p := of_decide_eq_true hb4
        refine RS.off (dj := 29) rfl (.inl (congrArg Value.bool hb4)) (fun _ => rfl) rfl ?_
        refine RS.off (dj := 29) rfl (.inl (congrArg Value.bool hb4)) (fun _ => rfl) rfl ?_
        refine RS.on (dj := 26) rfl (congrArg Value.bool rfl) ?_
        refine RS.q rfl (QO.pickT (by rfl) hb4 (by rfl)) ?_
        refine RS.q rfl (QO.pickT (by rfl) rfl (by rfl)) ?_
        refine RS.q rfl (QO.move) ?_
        refine RS.on (dj := 34) rfl (congrArg Value.bool rfl) ?_
        refine RS.q rfl (QO.move) ?_
        refine RS.on (dj := 34) rfl (congrArg Value.bool rfl) ?_
        refine RS.q rfl (QO.lss (by rfl) (by rfl)) ?_
        refine RS.on (dj := 34) rfl (congrArg Value.bool rfl) ?_
        refine RS.q rfl (QO.move) ?_
        refine RS.split (dj := 37) (by rfl) (fun hb5 => ?_) (fun hb5 => ?_)
        · have hb5p := of_decide_eq_true hb5
          refine RS.off (dj := 37) rfl (.inl (congrArg Value.bool hb5)) (fun _ => rfl) rfl ?_
          refine RS.off (dj := 37) rfl (.inl (congrArg Value.bool hb5)) (fun _ => rfl) rfl ?_
          refine RS.on (dj := 34) rfl (congrArg Value.bool rfl) ?_
          refine RS.q rfl (QO.pickT (by rfl) hb5 (by rfl)) ?_
          refine RS.q rfl (QO.pickT (by rfl) rfl (by rfl)) ?_
          refine RS.q rfl (QO.move) ?_
          refine RS.on (dj := 42) rfl (congrArg Value.bool rfl) ?_
          refine RS.q rfl (QO.move) ?_
          refine RS.on (dj := 42) rfl (congrArg Value.bool rfl) ?_
          refine RS.q rfl (QO.neq (by rfl) (by rfl)) ?_
          refine RS.q rfl (QO.pickT (by rfl) rfl (by rfl)) ?_
          refine RS.q rfl (QO.move) ?_
          refine RS.split (dj := 46) (by rfl) (fun hb6 => ?_) (fun hb6 => ?_)
          · have hb6p := bne_iff_ne.1 hb6
            refine RS.on (dj := 46) rfl (congrArg Value.bool hb6) ?_
            refine RS.q rfl (QO.move) ?_
            refine RS.on (dj := 46) rfl (congrArg Value.bool hb6) ?_
            refine RS.q rfl (QO.neq (by rfl) (by rfl)) ?_
            refine RS.q rfl (QO.pickT (by rfl) hb6 (by rfl)) ?_
            refine RS.q rfl (QO.move) ?_
            refine RS.split (dj := 50) (by rfl) (fun hb7 => ?_) (fun hb7 => ?_)
            · have hb7p := bne_iff_ne.1 hb7
              refine RS.on (dj := 50) rfl (congrArg Value.bool hb7) ?_
              refine RS.q rfl (QO.move) ?_
              refine RS.on (dj := 50) rfl (congrArg Value.bool hb7) ?_
              refine RS.q rfl (QO.neq (by rfl) (by rfl)) ?_
              refine RS.q rfl (QO.pickT (by rfl) hb7 (by rfl)) ?_
              refine RS.nil ?_
              refine thenC_n ?_
              refine CS.cond (by rfl) (fun hb8 => ?_) (fun hb8 => ?_)
              · have hb8p := bne_iff_ne.1 hb8
                refine CS.seq ?_
                refine CS.region ?_
                refine RS.q rfl (QO.assign) ?_
                refine RS.nil ?_
                refine thenC_n ?_
                refine CS.ret ?_
                refine blockC_r ?_
                refine thenC_r ?_
                refine loopQ_r ?_
                refine blockC_r ?_
                refine thenC_r ?_
                refine retQ.mk (H' := []) (.inr rfl) (RVs.tmp (by rfl) RVs.nil) (List.nil_sublist _) ?_
                exact ⟨congrArg Value.bool (by first | exact nameB_6 (by assumption) | exact nameB_7 (by assumption) | exact nameB_4 (k := k) (by omega) (nc_no (by omega)) | exact nameB_5 (by assumption) (by assumption) (fun j hj => hall j (by omega))), rfl⟩
              have hb8p := of_bne_false hb8
              refine CS.skip ?_
              refine blockC_n ?_
              refine thenC_n ?_
              refine CS.region ?_
              refine RS.q rfl (QO.add (by rfl) (by rfl) (by omega) (by omega)) ?_
              refine RS.q rfl (QO.move) ?_
              refine RS.nil ?_
              refine loopQ_n (by intro t ht; repeat (first | with_reducible exact rfl | exact frame_puts ht (frame_mix ht) _ rfl | (refine frame_put rfl ht ?_) | (refine frame_puts ht ?_ _ rfl) | exact frame_mix ht | (refine frame_mix2 rfl ht ?_) | exact rfl)) ?_
              exact ⟨k + 1, ⟨by omega, fun j hj => by
                  by_cases e : j = k
                  · subst e; exact nc_yes (by omega)
                  · exact hall j (by omega)⟩, by omega, (by repeat (first | exact kn_nil | refine kn_cons (by rfl) ?_)), (by repeat (first | exact List.Sublist.refl _ | exact List.nil_sublist _ | refine List.Sublist.cons_cons _ ?_ | refine List.Sublist.cons _ ?_ | exact Sbp.refl | exact Sbp.nil | refine Sbp.cons (by repeat (first | exact Rem.head | apply Rem.tail)) ?_ | exact Sbp.app | refine Sbp.skip ?_))⟩
            have hb7p := of_bne_false hb7
            refine RS.off (dj := 50) rfl (.inl (congrArg Value.bool hb7)) (fun _ => rfl) rfl ?_
            refine RS.off (dj := 50) rfl (.inl (congrArg Value.bool hb7)) (fun _ => rfl) rfl ?_
            refine RS.q rfl (QO.pickF (by rfl) hb7 (by rfl)) ?_
            refine RS.nil ?_
            refine thenC_n ?_
            refine CS.condF (by rfl) rfl ?_
            refine CS.skip ?_
            refine blockC_n ?_
            refine thenC_n ?_
            refine CS.region ?_
            refine RS.q rfl (QO.add (by rfl) (by rfl) (by omega) (by omega)) ?_
            refine RS.q rfl (QO.move) ?_
            refine RS.nil ?_
            refine loopQ_n (by intro t ht; repeat (first | with_reducible exact rfl | exact frame_puts ht (frame_mix ht) _ rfl | (refine frame_put rfl ht ?_) | (refine frame_puts ht ?_ _ rfl) | exact frame_mix ht | (refine frame_mix2 rfl ht ?_) | exact rfl)) ?_
            exact ⟨k + 1, ⟨by omega, fun j hj => by
                by_cases e : j = k
                · subst e; exact nc_yes (by omega)
                · exact hall j (by omega)⟩, by omega, (by repeat (first | exact kn_nil | refine kn_cons (by rfl) ?_)), (by repeat (first | exact List.Sublist.refl _ | exact List.nil_sublist _ | refine List.Sublist.cons_cons _ ?_ | refine List.Sublist.cons _ ?_ | exact Sbp.refl | exact Sbp.nil | refine Sbp.cons (by repeat (first | exact Rem.head | apply Rem.tail)) ?_ | exact Sbp.app | refine Sbp.skip ?_))⟩
          have hb6p := of_bne_false hb6
          refine RS.off (dj := 46) rfl (.inl (congrArg Value.bool hb6)) (fun _ => rfl) rfl ?_
          refine RS.off (dj := 46) rfl (.inl (congrArg Value.bool hb6)) (fun _ => rfl) rfl ?_
          refine RS.q rfl (QO.pickF (by rfl) hb6 (by rfl)) ?_
          refine RS.q rfl (QO.move) ?_
          refine RS.off (dj := 50) rfl (.inl (congrArg Value.bool rfl)) (fun _ => rfl) rfl ?_
          refine RS.off (dj := 50) rfl (.inl (congrArg Value.bool rfl)) (fun _ => rfl) rfl ?_
          refine RS.q rfl (QO.pickF (by rfl) rfl (by rfl)) ?_
          refine RS.nil ?_
          refine thenC_n ?_
          refine CS.condF (by rfl) rfl ?_
          refine CS.skip ?_
          refine blockC_n ?_
          refine thenC_n ?_
          refine CS.region ?_
          refine RS.q rfl (QO.add (by rfl) (by rfl) (by omega) (by omega)) ?_
          refine RS.q rfl (QO.move) ?_
          refine RS.nil ?_
          refine loopQ_n (by intro t ht; repeat (first | with_reducible exact rfl | exact frame_puts ht (frame_mix ht) _ rfl | (refine frame_put rfl ht ?_) | (refine frame_puts ht ?_ _ rfl) | exact frame_mix ht | (refine frame_mix2 rfl ht ?_) | exact rfl)) ?_
          exact ⟨k + 1, ⟨by omega, fun j hj => by
              by_cases e : j = k
              · subst e; exact nc_yes (by omega)
              · exact hall j (by omega)⟩, by omega, (by repeat (first | exact kn_nil | refine kn_cons (by rfl) ?_)), (by repeat (first | exact List.Sublist.refl _ | exact List.nil_sublist _ | refine List.Sublist.cons_cons _ ?_ | refine List.Sublist.cons _ ?_ | exact Sbp.refl | exact Sbp.nil | refine Sbp.cons (by repeat (first | exact Rem.head | apply Rem.tail)) ?_ | exact Sbp.app | refine Sbp.skip ?_))⟩
        have hb5p := of_decide_eq_false hb5
        refine RS.on (dj := 37) rfl (congrArg Value.bool hb5) ?_
        refine RS.q rfl (QO.move) ?_
        refine RS.on (dj := 37) rfl (congrArg Value.bool hb5) ?_
        refine RS.q rfl (QO.gtr (by rfl) (by rfl)) ?_
        refine RS.on (dj := 34) rfl (congrArg Value.bool rfl) ?_
        refine RS.q rfl (QO.pickF (by rfl) hb5 (by rfl)) ?_
        refine RS.q rfl (QO.pickT (by rfl) rfl (by rfl)) ?_
        refine RS.q rfl (QO.move) ?_
        refine RS.split (dj := 42) (by rfl) (fun hb9 => ?_) (fun hb9 => ?_)
        · have hb9p := of_decide_eq_true hb9
          refine RS.on (dj := 42) rfl (congrArg Value.bool hb9) ?_
          refine RS.q rfl (QO.move) ?_
          refine RS.on (dj := 42) rfl (congrArg Value.bool hb9) ?_
          refine RS.q rfl (QO.neq (by rfl) (by rfl)) ?_
          refine RS.q rfl (QO.pickT (by rfl) hb9 (by rfl)) ?_
          refine RS.q rfl (QO.move) ?_
          refine RS.split (dj := 46) (by rfl) (fun hb10 => ?_) (fun hb10 => ?_)
          · have hb10p := bne_iff_ne.1 hb10
            refine RS.on (dj := 46) rfl (congrArg Value.bool hb10) ?_
            refine RS.q rfl (QO.move) ?_
            refine RS.on (dj := 46) rfl (congrArg Value.bool hb10) ?_
            refine RS.q rfl (QO.neq (by rfl) (by rfl)) ?_
            refine RS.q rfl (QO.pickT (by rfl) hb10 (by rfl)) ?_
            refine RS.q rfl (QO.move) ?_
            refine RS.split (dj := 50) (by rfl) (fun hb11 => ?_) (fun hb11 => ?_)
            · have hb11p := bne_iff_ne.1 hb11
              refine RS.on (dj := 50) rfl (congrArg Value.bool hb11) ?_
              refine RS.q rfl (QO.move) ?_
              refine RS.on (dj := 50) rfl (congrArg Value.bool hb11) ?_
              refine RS.q rfl (QO.neq (by rfl) (by rfl)) ?_
              refine RS.q rfl (QO.pickT (by rfl) hb11 (by rfl)) ?_
              refine RS.nil ?_
              refine thenC_n ?_
              refine CS.cond (by rfl) (fun hb12 => ?_) (fun hb12 => ?_)
              · have hb12p := bne_iff_ne.1 hb12
                refine CS.seq ?_
                refine CS.region ?_
                refine RS.q rfl (QO.assign) ?_
                refine RS.nil ?_
                refine thenC_n ?_
                refine CS.ret ?_
                refine blockC_r ?_
                refine thenC_r ?_
                refine loopQ_r ?_
                refine blockC_r ?_
                refine thenC_r ?_
                refine retQ.mk (H' := []) (.inr rfl) (RVs.tmp (by rfl) RVs.nil) (List.nil_sublist _) ?_
                exact ⟨congrArg Value.bool (by first | exact nameB_6 (by assumption) | exact nameB_7 (by assumption) | exact nameB_4 (k := k) (by omega) (nc_no (by omega)) | exact nameB_5 (by assumption) (by assumption) (fun j hj => hall j (by omega))), rfl⟩
              have hb12p := of_bne_false hb12
              refine CS.skip ?_
              refine blockC_n ?_
              refine thenC_n ?_
              refine CS.region ?_
              refine RS.q rfl (QO.add (by rfl) (by rfl) (by omega) (by omega)) ?_
              refine RS.q rfl (QO.move) ?_
              refine RS.nil ?_
              refine loopQ_n (by intro t ht; repeat (first | with_reducible exact rfl | exact frame_puts ht (frame_mix ht) _ rfl | (refine frame_put rfl ht ?_) | (refine frame_puts ht ?_ _ rfl) | exact frame_mix ht | (refine frame_mix2 rfl ht ?_) | exact rfl)) ?_
              exact ⟨k + 1, ⟨by omega, fun j hj => by
                  by_cases e : j = k
                  · subst e; exact nc_yes (by omega)
                  · exact hall j (by omega)⟩, by omega, (by repeat (first | exact kn_nil | refine kn_cons (by rfl) ?_)), (by repeat (first | exact List.Sublist.refl _ | exact List.nil_sublist _ | refine List.Sublist.cons_cons _ ?_ | refine List.Sublist.cons _ ?_ | exact Sbp.refl | exact Sbp.nil | refine Sbp.cons (by repeat (first | exact Rem.head | apply Rem.tail)) ?_ | exact Sbp.app | refine Sbp.skip ?_))⟩
            have hb11p := of_bne_false hb11
            refine RS.off (dj := 50) rfl (.inl (congrArg Value.bool hb11)) (fun _ => rfl) rfl ?_
            refine RS.off (dj := 50) rfl (.inl (congrArg Value.bool hb11)) (fun _ => rfl) rfl ?_
            refine RS.q rfl (QO.pickF (by rfl) hb11 (by rfl)) ?_
            refine RS.nil ?_
            refine thenC_n ?_
            refine CS.condF (by rfl) rfl ?_
            refine CS.skip ?_
            refine blockC_n ?_
            refine thenC_n ?_
            refine CS.region ?_
            refine RS.q rfl (QO.add (by rfl) (by rfl) (by omega) (by omega)) ?_
            refine RS.q rfl (QO.move) ?_
            refine RS.nil ?_
            refine loopQ_n (by intro t ht; repeat (first | with_reducible exact rfl | exact frame_puts ht (frame_mix ht) _ rfl | (refine frame_put rfl ht ?_) | (refine frame_puts ht ?_ _ rfl) | exact frame_mix ht | (refine frame_mix2 rfl ht ?_) | exact rfl)) ?_
            exact ⟨k + 1, ⟨by omega, fun j hj => by
                by_cases e : j = k
                · subst e; exact nc_yes (by omega)
                · exact hall j (by omega)⟩, by omega, (by repeat (first | exact kn_nil | refine kn_cons (by rfl) ?_)), (by repeat (first | exact List.Sublist.refl _ | exact List.nil_sublist _ | refine List.Sublist.cons_cons _ ?_ | refine List.Sublist.cons _ ?_ | exact Sbp.refl | exact Sbp.nil | refine Sbp.cons (by repeat (first | exact Rem.head | apply Rem.tail)) ?_ | exact Sbp.app | refine Sbp.skip ?_))⟩
          have hb10p := of_bne_false hb10
          refine RS.off (dj := 46) rfl (.inl (congrArg Value.bool hb10)) (fun _ => rfl) rfl ?_
          refine RS.off (dj := 46) rfl (.inl (congrArg Value.bool hb10)) (fun _ => rfl) rfl ?_
          refine RS.q rfl (QO.pickF (by rfl) hb10 (by rfl)) ?_
          refine RS.q rfl (QO.move) ?_
          refine RS.off (dj := 50) rfl (.inl (congrArg Value.bool rfl)) (fun _ => rfl) rfl ?_
          refine RS.off (dj := 50) rfl (.inl (congrArg Value.bool rfl)) (fun _ => rfl) rfl ?_
          refine RS.q rfl (QO.pickF (by rfl) rfl (by rfl)) ?_
          refine RS.nil ?_
          refine thenC_n ?_
          refine CS.condF (by rfl) rfl ?_
          refine CS.skip ?_
          refine blockC_n ?_
          refine thenC_n ?_
          refine CS.region ?_
          refine RS.q rfl (QO.add (by rfl) (by rfl) (by omega) (by omega)) ?_
          refine RS.q rfl (QO.move) ?_
          refine RS.nil ?_
          refine loopQ_n (by intro t ht; repeat (first | with_reducible exact rfl | exact frame_puts ht (frame_mix ht) _ rfl | (refine frame_put rfl ht ?_) | (refine frame_puts ht ?_ _ rfl) | exact frame_mix ht | (refine frame_mix2 rfl ht ?_) | exact rfl)) ?_
          exact ⟨k + 1, ⟨by omega, fun j hj => by
              by_cases e : j = k
              · subst e; exact nc_yes (by omega)
              · exact hall j (by omega)⟩, by omega, (by repeat (first | exact kn_nil | refine kn_cons (by rfl) ?_)), (by repeat (first | exact List.Sublist.refl _ | exact List.nil_sublist _ | refine List.Sublist.cons_cons _ ?_ | refine List.Sublist.cons _ ?_ | exact Sbp.refl | exact Sbp.nil | refine Sbp.cons (by repeat (first | exact Rem.head | apply Rem.tail)) ?_ | exact Sbp.app | refine Sbp.skip ?_))⟩
        have hb9p := of_decide_eq_false hb9
        refine RS.off (dj := 42) rfl (.inl (congrArg Value.bool hb9)) (fun _ => rfl) rfl ?_
        refine RS.off (dj := 42) rfl (.inl (congrArg Value.bool hb9)) (fun _ => rfl) rfl ?_
        refine RS.q rfl (QO.pickF (by rfl) hb9 (by rfl)) ?_
        refine RS.q rfl (QO.move) ?_
        refine RS.off (dj := 46) rfl (.inl (congrArg Value.bool rfl)) (fun _ => rfl) rfl ?_
        refine RS.off (dj := 46) rfl (.inl (congrArg Value.bool rfl)) (fun _ => rfl) rfl ?_
        refine RS.q rfl (QO.pickF (by rfl) rfl (by rfl)) ?_
        refine RS.q rfl (QO.move) ?_
        refine RS.off (dj := 50) rfl (.inl (congrArg Value.bool rfl)) (fun _ => rfl) rfl ?_
        refine RS.off (dj := 50) rfl (.inl (congrArg Value.bool rfl)) (fun _ => rfl) rfl ?_
        refine RS.q rfl (QO.pickF (by rfl) rfl (by rfl)) ?_
        refine RS.nil ?_
        refine thenC_n ?_
        refine CS.condF (by rfl) rfl ?_
        refine CS.skip ?_
        refine blockC_n ?_
        refine thenC_n ?_
        refine CS.region ?_
        refine RS.q rfl (QO.add (by rfl) (by rfl) (by omega) (by omega)) ?_
        refine RS.q rfl (QO.move) ?_
        refine RS.nil ?_
        refine loopQ_n (by intro t ht; repeat (first | with_reducible exact rfl | exact frame_puts ht (frame_mix ht) _ rfl | (refine frame_put rfl ht ?_) | (refine frame_puts ht ?_ _ rfl) | exact frame_mix ht | (refine frame_mix2 rfl ht ?_) | exact rfl)) ?_
        exact ⟨k + 1, ⟨by omega, fun j hj => by
            by_cases e : j = k
            · subst e; exact nc_yes (by omega)
            · exact hall j (by omega)⟩, by omega, (by repeat (first | exact kn_nil | refine kn_cons (by rfl) ?_)), (by repeat (first | exact List.Sublist.refl _ | exact List.nil_sublist _ | refine List.Sublist.cons_cons _ ?_ | refine List.Sublist.cons _ ?_ | exact Sbp.refl | exact Sbp.nil | refine Sbp.cons (by repeat (first | exact Rem.head | apply Rem.tail)) ?_ | exact Sbp.app | refine Sbp.skip ?_))⟩
      have hb4p := of_decide_eq_false hb4
      refine RS.on (dj := 29) rfl (congrArg Value.bool hb4) ?_
      refine RS.q rfl (QO.move) ?_
      refine RS.on (dj := 29) rfl (congrArg Value.bool hb4) ?_
      refine RS.q rfl (QO.gtr (by rfl) (by rfl)) ?_
      refine RS.on (dj := 26) rfl (congrArg Value.bool rfl) ?_
      refine RS.q rfl (QO.pickF (by rfl) hb4 (by rfl)) ?_
      refine RS.q rfl (QO.pickT (by rfl) rfl (by rfl)) ?_
      refine RS.q rfl (QO.move) ?_
      refine RS.split (dj := 34) (by rfl) (fun hb13 => ?_) (fun hb13 => ?_)
      · have hb13p := of_decide_eq_true hb13
        refine RS.on (dj := 34) rfl (congrArg Value.bool hb13) ?_
        refine RS.q rfl (QO.move) ?_
        refine RS.on (dj := 34) rfl (congrArg Value.bool hb13) ?_
        refine RS.q rfl (QO.lss (by rfl) (by rfl)) ?_
        refine RS.on (dj := 34) rfl (congrArg Value.bool hb13) ?_
        refine RS.q rfl (QO.move) ?_
        refine RS.split (dj := 37) (by rfl) (fun hb14 => ?_) (fun hb14 => ?_)
        · have hb14p := of_decide_eq_true hb14
          refine RS.off (dj := 37) rfl (.inl (congrArg Value.bool hb14)) (fun _ => rfl) rfl ?_
          refine RS.off (dj := 37) rfl (.inl (congrArg Value.bool hb14)) (fun _ => rfl) rfl ?_
          refine RS.on (dj := 34) rfl (congrArg Value.bool hb13) ?_
          refine RS.q rfl (QO.pickT (by rfl) hb14 (by rfl)) ?_
          refine RS.q rfl (QO.pickT (by rfl) hb13 (by rfl)) ?_
          refine RS.q rfl (QO.move) ?_
          refine RS.on (dj := 42) rfl (congrArg Value.bool rfl) ?_
          refine RS.q rfl (QO.move) ?_
          refine RS.on (dj := 42) rfl (congrArg Value.bool rfl) ?_
          refine RS.q rfl (QO.neq (by rfl) (by rfl)) ?_
          refine RS.q rfl (QO.pickT (by rfl) rfl (by rfl)) ?_
          refine RS.q rfl (QO.move) ?_
          refine RS.split (dj := 46) (by rfl) (fun hb15 => ?_) (fun hb15 => ?_)
          · have hb15p := bne_iff_ne.1 hb15
            refine RS.on (dj := 46) rfl (congrArg Value.bool hb15) ?_
            refine RS.q rfl (QO.move) ?_
            refine RS.on (dj := 46) rfl (congrArg Value.bool hb15) ?_
            refine RS.q rfl (QO.neq (by rfl) (by rfl)) ?_
            refine RS.q rfl (QO.pickT (by rfl) hb15 (by rfl)) ?_
            refine RS.q rfl (QO.move) ?_
            refine RS.split (dj := 50) (by rfl) (fun hb16 => ?_) (fun hb16 => ?_)
            · have hb16p := bne_iff_ne.1 hb16
              refine RS.on (dj := 50) rfl (congrArg Value.bool hb16) ?_
              refine RS.q rfl (QO.move) ?_
              refine RS.on (dj := 50) rfl (congrArg Value.bool hb16) ?_
              refine RS.q rfl (QO.neq (by rfl) (by rfl)) ?_
              refine RS.q rfl (QO.pickT (by rfl) hb16 (by rfl)) ?_
              refine RS.nil ?_
              refine thenC_n ?_
              refine CS.cond (by rfl) (fun hb17 => ?_) (fun hb17 => ?_)
              · have hb17p := bne_iff_ne.1 hb17
                refine CS.seq ?_
                refine CS.region ?_
                refine RS.q rfl (QO.assign) ?_
                refine RS.nil ?_
                refine thenC_n ?_
                refine CS.ret ?_
                refine blockC_r ?_
                refine thenC_r ?_
                refine loopQ_r ?_
                refine blockC_r ?_
                refine thenC_r ?_
                refine retQ.mk (H' := []) (.inr rfl) (RVs.tmp (by rfl) RVs.nil) (List.nil_sublist _) ?_
                exact ⟨congrArg Value.bool (by first | exact nameB_6 (by assumption) | exact nameB_7 (by assumption) | exact nameB_4 (k := k) (by omega) (nc_no (by omega)) | exact nameB_5 (by assumption) (by assumption) (fun j hj => hall j (by omega))), rfl⟩
              have hb17p := of_bne_false hb17
              refine CS.skip ?_
              refine blockC_n ?_
              refine thenC_n ?_
              refine CS.region ?_
              refine RS.q rfl (QO.add (by rfl) (by rfl) (by omega) (by omega)) ?_
              refine RS.q rfl (QO.move) ?_
              refine RS.nil ?_
              refine loopQ_n (by intro t ht; repeat (first | with_reducible exact rfl | exact frame_puts ht (frame_mix ht) _ rfl | (refine frame_put rfl ht ?_) | (refine frame_puts ht ?_ _ rfl) | exact frame_mix ht | (refine frame_mix2 rfl ht ?_) | exact rfl)) ?_
              exact ⟨k + 1, ⟨by omega, fun j hj => by
                  by_cases e : j = k
                  · subst e; exact nc_yes (by omega)
                  · exact hall j (by omega)⟩, by omega, (by repeat (first | exact kn_nil | refine kn_cons (by rfl) ?_)), (by repeat (first | exact List.Sublist.refl _ | exact List.nil_sublist _ | refine List.Sublist.cons_cons _ ?_ | refine List.Sublist.cons _ ?_ | exact Sbp.refl | exact Sbp.nil | refine Sbp.cons (by repeat (first | exact Rem.head | apply Rem.tail)) ?_ | exact Sbp.app | refine Sbp.skip ?_))⟩
            have hb16p := of_bne_false hb16
            refine RS.off (dj := 50) rfl (.inl (congrArg Value.bool hb16)) (fun _ => rfl) rfl ?_
            refine RS.off (dj := 50) rfl (.inl (congrArg Value.bool hb16)) (fun _ => rfl) rfl ?_
            refine RS.q rfl (QO.pickF (by rfl) hb16 (by rfl)) ?_
            refine RS.nil ?_
            refine thenC_n ?_
            refine CS.condF (by rfl) rfl ?_
            refine CS.skip ?_
            refine blockC_n ?_
            refine thenC_n ?_
            refine CS.region ?_
            refine RS.q rfl (QO.add (by rfl) (by rfl) (by omega) (by omega)) ?_
            refine RS.q rfl (QO.move) ?_
            refine RS.nil ?_
            refine loopQ_n (by intro t ht; repeat (first | with_reducible exact rfl | exact frame_puts ht (frame_mix ht) _ rfl | (refine frame_put rfl ht ?_) | (refine frame_puts ht ?_ _ rfl) | exact frame_mix ht | (refine frame_mix2 rfl ht ?_) | exact rfl)) ?_
            exact ⟨k + 1, ⟨by omega, fun j hj => by
                by_cases e : j = k
                · subst e; exact nc_yes (by omega)
                · exact hall j (by omega)⟩, by omega, (by repeat (first | exact kn_nil | refine kn_cons (by rfl) ?_)), (by repeat (first | exact List.Sublist.refl _ | exact List.nil_sublist _ | refine List.Sublist.cons_cons _ ?_ | refine List.Sublist.cons _ ?_ | exact Sbp.refl | exact Sbp.nil | refine Sbp.cons (by repeat (first | exact Rem.head | apply Rem.tail)) ?_ | exact Sbp.app | refine Sbp.skip ?_))⟩
          have hb15p := of_bne_false hb15
          refine RS.off (dj := 46) rfl (.inl (congrArg Value.bool hb15)) (fun _ => rfl) rfl ?_
          refine RS.off (dj := 46) rfl (.inl (congrArg Value.bool hb15)) (fun _ => rfl) rfl ?_
          refine RS.q rfl (QO.pickF (by rfl) hb15 (by rfl)) ?_
          refine RS.q rfl (QO.move) ?_
          refine RS.off (dj := 50) rfl (.inl (congrArg Value.bool rfl)) (fun _ => rfl) rfl ?_
          refine RS.off (dj := 50) rfl (.inl (congrArg Value.bool rfl)) (fun _ => rfl) rfl ?_
          refine RS.q rfl (QO.pickF (by rfl) rfl (by rfl)) ?_
          refine RS.nil ?_
          refine thenC_n ?_
          refine CS.condF (by rfl) rfl ?_
          refine CS.skip ?_
          refine blockC_n ?_
          refine thenC_n ?_
          refine CS.region ?_
          refine RS.q rfl (QO.add (by rfl) (by rfl) (by omega) (by omega)) ?_
          refine RS.q rfl (QO.move) ?_
          refine RS.nil ?_
          refine loopQ_n (by intro t ht; repeat (first | with_reducible exact rfl | exact frame_puts ht (frame_mix ht) _ rfl | (refine frame_put rfl ht ?_) | (refine frame_puts ht ?_ _ rfl) | exact frame_mix ht | (refine frame_mix2 rfl ht ?_) | exact rfl)) ?_
          exact ⟨k + 1, ⟨by omega, fun j hj => by
              by_cases e : j = k
              · subst e; exact nc_yes (by omega)
              · exact hall j (by omega)⟩, by omega, (by repeat (first | exact kn_nil | refine kn_cons (by rfl) ?_)), (by repeat (first | exact List.Sublist.refl _ | exact List.nil_sublist _ | refine List.Sublist.cons_cons _ ?_ | refine List.Sublist.cons _ ?_ | exact Sbp.refl | exact Sbp.nil | refine Sbp.cons (by repeat (first | exact Rem.head | apply Rem.tail)) ?_ | exact Sbp.app | refine Sbp.skip ?_))⟩
        have hb14p := of_decide_eq_false hb14
        refine RS.on (dj := 37) rfl (congrArg Value.bool hb14) ?_
        refine RS.q rfl (QO.move) ?_
        refine RS.on (dj := 37) rfl (congrArg Value.bool hb14) ?_
        refine RS.q rfl (QO.gtr (by rfl) (by rfl)) ?_
        refine RS.on (dj := 34) rfl (congrArg Value.bool hb13) ?_
        refine RS.q rfl (QO.pickF (by rfl) hb14 (by rfl)) ?_
        refine RS.q rfl (QO.pickT (by rfl) hb13 (by rfl)) ?_
        refine RS.q rfl (QO.move) ?_
        refine RS.split (dj := 42) (by rfl) (fun hb18 => ?_) (fun hb18 => ?_)
        · have hb18p := of_decide_eq_true hb18
          refine RS.on (dj := 42) rfl (congrArg Value.bool hb18) ?_
          refine RS.q rfl (QO.move) ?_
          refine RS.on (dj := 42) rfl (congrArg Value.bool hb18) ?_
          refine RS.q rfl (QO.neq (by rfl) (by rfl)) ?_
          refine RS.q rfl (QO.pickT (by rfl) hb18 (by rfl)) ?_
          refine RS.q rfl (QO.move) ?_
          refine RS.split (dj := 46) (by rfl) (fun hb19 => ?_) (fun hb19 => ?_)
          · have hb19p := bne_iff_ne.1 hb19
            refine RS.on (dj := 46) rfl (congrArg Value.bool hb19) ?_
            refine RS.q rfl (QO.move) ?_
            refine RS.on (dj := 46) rfl (congrArg Value.bool hb19) ?_
            refine RS.q rfl (QO.neq (by rfl) (by rfl)) ?_
            refine RS.q rfl (QO.pickT (by rfl) hb19 (by rfl)) ?_
            refine RS.q rfl (QO.move) ?_
            refine RS.split (dj := 50) (by rfl) (fun hb20 => ?_) (fun hb20 => ?_)
            · have hb20p := bne_iff_ne.1 hb20
              refine RS.on (dj := 50) rfl (congrArg Value.bool hb20) ?_
              refine RS.q rfl (QO.move) ?_
              refine RS.on (dj := 50) rfl (congrArg Value.bool hb20) ?_
              refine RS.q rfl (QO.neq (by rfl) (by rfl)) ?_
              refine RS.q rfl (QO.pickT (by rfl) hb20 (by rfl)) ?_
              refine RS.nil ?_
              refine thenC_n ?_
              refine CS.cond (by rfl) (fun hb21 => ?_) (fun hb21 => ?_)
              · have hb21p := bne_iff_ne.1 hb21
                refine CS.seq ?_
                refine CS.region ?_
                refine RS.q rfl (QO.assign) ?_
                refine RS.nil ?_
                refine thenC_n ?_
                refine CS.ret ?_
                refine blockC_r ?_
                refine thenC_r ?_
                refine loopQ_r ?_
                refine blockC_r ?_
                refine thenC_r ?_
                refine retQ.mk (H' := []) (.inr rfl) (RVs.tmp (by rfl) RVs.nil) (List.nil_sublist _) ?_
                exact ⟨congrArg Value.bool (by first | exact nameB_6 (by assumption) | exact nameB_7 (by assumption) | exact nameB_4 (k := k) (by omega) (nc_no (by omega)) | exact nameB_5 (by assumption) (by assumption) (fun j hj => hall j (by omega))), rfl⟩
              have hb21p := of_bne_false hb21
              refine CS.skip ?_
              refine blockC_n ?_
              refine thenC_n ?_
              refine CS.region ?_
              refine RS.q rfl (QO.add (by rfl) (by rfl) (by omega) (by omega)) ?_
              refine RS.q rfl (QO.move) ?_
              refine RS.nil ?_
              refine loopQ_n (by intro t ht; repeat (first | with_reducible exact rfl | exact frame_puts ht (frame_mix ht) _ rfl | (refine frame_put rfl ht ?_) | (refine frame_puts ht ?_ _ rfl) | exact frame_mix ht | (refine frame_mix2 rfl ht ?_) | exact rfl)) ?_
              exact ⟨k + 1, ⟨by omega, fun j hj => by
                  by_cases e : j = k
                  · subst e; exact nc_yes (by omega)
                  · exact hall j (by omega)⟩, by omega, (by repeat (first | exact kn_nil | refine kn_cons (by rfl) ?_)), (by repeat (first | exact List.Sublist.refl _ | exact List.nil_sublist _ | refine List.Sublist.cons_cons _ ?_ | refine List.Sublist.cons _ ?_ | exact Sbp.refl | exact Sbp.nil | refine Sbp.cons (by repeat (first | exact Rem.head | apply Rem.tail)) ?_ | exact Sbp.app | refine Sbp.skip ?_))⟩
            have hb20p := of_bne_false hb20
            refine RS.off (dj := 50) rfl (.inl (congrArg Value.bool hb20)) (fun _ => rfl) rfl ?_
            refine RS.off (dj := 50) rfl (.inl (congrArg Value.bool hb20)) (fun _ => rfl) rfl ?_
            refine RS.q rfl (QO.pickF (by rfl) hb20 (by rfl)) ?_
            refine RS.nil ?_
            refine thenC_n ?_
            refine CS.condF (by rfl) rfl ?_
            refine CS.skip ?_
            refine blockC_n ?_
            refine thenC_n ?_
            refine CS.region ?_
            refine RS.q rfl (QO.add (by rfl) (by rfl) (by omega) (by omega)) ?_
            refine RS.q rfl (QO.move) ?_
            refine RS.nil ?_
            refine loopQ_n (by intro t ht; repeat (first | with_reducible exact rfl | exact frame_puts ht (frame_mix ht) _ rfl | (refine frame_put rfl ht ?_) | (refine frame_puts ht ?_ _ rfl) | exact frame_mix ht | (refine frame_mix2 rfl ht ?_) | exact rfl)) ?_
            exact ⟨k + 1, ⟨by omega, fun j hj => by
                by_cases e : j = k
                · subst e; exact nc_yes (by omega)
                · exact hall j (by omega)⟩, by omega, (by repeat (first | exact kn_nil | refine kn_cons (by rfl) ?_)), (by repeat (first | exact List.Sublist.refl _ | exact List.nil_sublist _ | refine List.Sublist.cons_cons _ ?_ | refine List.Sublist.cons _ ?_ | exact Sbp.refl | exact Sbp.nil | refine Sbp.cons (by repeat (first | exact Rem.head | apply Rem.tail)) ?_ | exact Sbp.app | refine Sbp.skip ?_))⟩
          have hb19p := of_bne_false hb19
          refine RS.off (dj := 46) rfl (.inl (congrArg Value.bool hb19)) (fun _ => rfl) rfl ?_
          refine RS.off (dj := 46) rfl (.inl (congrArg Value.bool hb19)) (fun _ => rfl) rfl ?_
          refine RS.q rfl (QO.pickF (by rfl) hb19 (by rfl)) ?_
          refine RS.q rfl (QO.move) ?_
          refine RS.off (dj := 50) rfl (.inl (congrArg Value.bool rfl)) (fun _ => rfl) rfl ?_
          refine RS.off (dj := 50) rfl (.inl (congrArg Value.bool rfl)) (fun _ => rfl) rfl ?_
          refine RS.q rfl (QO.pickF (by rfl) rfl (by rfl)) ?_
          refine RS.nil ?_
          refine thenC_n ?_
          refine CS.condF (by rfl) rfl ?_
          refine CS.skip ?_
          refine blockC_n ?_
          refine thenC_n ?_
          refine CS.region ?_
          refine RS.q rfl (QO.add (by rfl) (by rfl) (by omega) (by omega)) ?_
          refine RS.q rfl (QO.move) ?_
          refine RS.nil ?_
          refine loopQ_n (by intro t ht; repeat (first | with_reducible exact rfl | exact frame_puts ht (frame_mix ht) _ rfl | (refine frame_put rfl ht ?_) | (refine frame_puts ht ?_ _ rfl) | exact frame_mix ht | (refine frame_mix2 rfl ht ?_) | exact rfl)) ?_
          exact ⟨k + 1, ⟨by omega, fun j hj => by
              by_cases e : j = k
              · subst e; exact nc_yes (by omega)
              · exact hall j (by omega)⟩, by omega, (by repeat (first | exact kn_nil | refine kn_cons (by rfl) ?_)), (by repeat (first | exact List.Sublist.refl _ | exact List.nil_sublist _ | refine List.Sublist.cons_cons _ ?_ | refine List.Sublist.cons _ ?_ | exact Sbp.refl | exact Sbp.nil | refine Sbp.cons (by repeat (first | exact Rem.head | apply Rem.tail)) ?_ | exact Sbp.app | refine Sbp.skip ?_))⟩
        have hb18p := of_decide_eq_false hb18
        refine RS.off (dj := 42) rfl (.inl (congrArg Value.bool hb18)) (fun _ => rfl) rfl ?_
        refine RS.off (dj := 42) rfl (.inl (congrArg Value.bool hb18)) (fun _ => rfl) rfl ?_
        refine RS.q rfl (QO.pickF (by rfl) hb18 (by rfl)) ?_
        refine RS.q rfl (QO.move) ?_
        refine RS.off (dj := 46) rfl (.inl (congrArg Value.bool rfl)) (fun _ => rfl) rfl ?_
        refine RS.off (dj := 46) rfl (.inl (congrArg Value.bool rfl)) (fun _ => rfl) rfl ?_
        refine RS.q rfl (QO.pickF (by rfl) rfl (by rfl)) ?_
        refine RS.q rfl (QO.move) ?_
        refine RS.off (dj := 50) rfl (.inl (congrArg Value.bool rfl)) (fun _ => rfl) rfl ?_
        refine RS.off (dj := 50) rfl (.inl (congrArg Value.bool rfl)) (fun _ => rfl) rfl ?_
        refine RS.q rfl (QO.pickF (by rfl) rfl (by rfl)) ?_
        refine RS.nil ?_
        refine thenC_n ?_
        refine CS.condF (by rfl) rfl ?_
        refine CS.skip ?_
        refine blockC_n ?_
        refine thenC_n ?_
        refine CS.region ?_
        refine RS.q rfl (QO.add (by rfl) (by rfl) (by omega) (by omega)) ?_
        refine RS.q rfl (QO.move) ?_
        refine RS.nil ?_
        refine loopQ_n (by intro t ht; repeat (first | with_reducible exact rfl | exact frame_puts ht (frame_mix ht) _ rfl | (refine frame_put rfl ht ?_) | (refine frame_puts ht ?_ _ rfl) | exact frame_mix ht | (refine frame_mix2 rfl ht ?_) | exact rfl)) ?_
        exact ⟨k + 1, ⟨by omega, fun j hj => by
            by_cases e : j = k
            · subst e; exact nc_yes (by omega)
            · exact hall j (by omega)⟩, by omega, (by repeat (first | exact kn_nil | refine kn_cons (by rfl) ?_)), (by repeat (first | exact List.Sublist.refl _ | exact List.nil_sublist _ | refine List.Sublist.cons_cons _ ?_ | refine List.Sublist.cons _ ?_ | exact Sbp.refl | exact Sbp.nil | refine Sbp.cons (by repeat (first | exact Rem.head | apply Rem.tail)) ?_ | exact Sbp.app | refine Sbp.skip ?_))⟩
      have hb13p := of_decide_eq_false hb13
      refine RS.off (dj := 34) rfl (.inl (congrArg Value.bool hb13)) (fun _ => rfl) rfl ?_
      refine RS.off (dj := 34) rfl (.inl (congrArg Value.bool hb13)) (fun _ => rfl) rfl ?_
      refine RS.off (dj := 34) rfl (.inl (congrArg Value.bool hb13)) (fun _ => rfl) rfl ?_
      refine RS.off (dj := 37) (c := true) rfl (.inr rfl) (fun h => by cases h) rfl ?_
      refine RS.off (dj := 37) (c := true) rfl (.inr rfl) (fun h => by cases h) rfl ?_
      refine RS.off (dj := 34) rfl (.inl (congrArg Value.bool hb13)) (fun _ => rfl) rfl ?_
      refine RS.q rfl (QO.pickF (by rfl) hb13 (by rfl)) ?_
      refine RS.q rfl (QO.move) ?_
      refine RS.off (dj := 42) rfl (.inl (congrArg Value.bool rfl)) (fun _ => rfl) rfl ?_
      refine RS.off (dj := 42) rfl (.inl (congrArg Value.bool rfl)) (fun _ => rfl) rfl ?_
      refine RS.q rfl (QO.pickF (by rfl) rfl (by rfl)) ?_
      refine RS.q rfl (QO.move) ?_
      refine RS.off (dj := 46) rfl (.inl (congrArg Value.bool rfl)) (fun _ => rfl) rfl ?_
      refine RS.off (dj := 46) rfl (.inl (congrArg Value.bool rfl)) (fun _ => rfl) rfl ?_
      refine RS.q rfl (QO.pickF (by rfl) rfl (by rfl)) ?_
      refine RS.q rfl (QO.move) ?_
      refine RS.off (dj := 50) rfl (.inl (congrArg Value.bool rfl)) (fun _ => rfl) rfl ?_
      refine RS.off (dj := 50) rfl (.inl (congrArg Value.bool rfl)) (fun _ => rfl) rfl ?_
      refine RS.q rfl (QO.pickF (by rfl) rfl (by rfl)) ?_
      refine RS.nil ?_
      refine thenC_n ?_
      refine CS.condF (by rfl) rfl ?_
      refine CS.skip ?_
      refine blockC_n ?_
      refine thenC_n ?_
      refine CS.region ?_
      refine RS.q rfl (QO.add (by rfl) (by rfl) (by omega) (by omega)) ?_
      refine RS.q rfl (QO.move) ?_
      refine RS.nil ?_
      refine loopQ_n (by intro t ht; repeat (first | with_reducible exact rfl | exact frame_puts ht (frame_mix ht) _ rfl | (refine frame_put rfl ht ?_) | (refine frame_puts ht ?_ _ rfl) | exact frame_mix ht | (refine frame_mix2 rfl ht ?_) | exact rfl)) ?_
      exact ⟨k + 1, ⟨by omega, fun j hj => by
          by_cases e : j = k
          · subst e; exact nc_yes (by omega)
          · exact hall j (by omega)⟩, by omega, (by repeat (first | exact kn_nil | refine kn_cons (by rfl) ?_)), (by repeat (first | exact List.Sublist.refl _ | exact List.nil_sublist _ | refine List.Sublist.cons_cons _ ?_ | refine List.Sublist.cons _ ?_ | exact Sbp.refl | exact Sbp.nil | refine Sbp.cons (by repeat (first | exact Rem.head | apply Rem.tail)) ?_ | exact Sbp.app | refine Sbp.skip ?_))⟩
    have hb3p := of_decide_eq_false hb3
    refine RS.on (dj := 22) rfl (congrArg Value.bool hb3) ?_
    refine RS.q rfl (QO.move) ?_
    refine RS.on (dj := 22) rfl (congrArg Value.bool hb3) ?_
    refine RS.q rfl (QO.gtr (by rfl) (by rfl)) ?_
    refine RS.q rfl (QO.pickF (by rfl) hb3 (by rfl)) ?_
    refine RS.q rfl (QO.move) ?_
    refine RS.split (dj := 26) (by rfl) (fun hb22 => ?_) (fun hb22 => ?_)
    · have hb22p := of_decide_eq_true hb22
      refine RS.on (dj := 26) rfl (congrArg Value.bool hb22) ?_
      refine RS.q rfl (QO.move) ?_
      refine RS.on (dj := 26) rfl (congrArg Value.bool hb22) ?_
      refine RS.q rfl (QO.lss (by rfl) (by rfl)) ?_
      refine RS.on (dj := 26) rfl (congrArg Value.bool hb22) ?_
      refine RS.q rfl (QO.move) ?_
      refine RS.split (dj := 29) (by rfl) (fun hb23 => ?_) (fun hb23 => ?_)
      · have hb23p := of_decide_eq_true hb23
        refine RS.off (dj := 29) rfl (.inl (congrArg Value.bool hb23)) (fun _ => rfl) rfl ?_
        refine RS.off (dj := 29) rfl (.inl (congrArg Value.bool hb23)) (fun _ => rfl) rfl ?_
        refine RS.on (dj := 26) rfl (congrArg Value.bool hb22) ?_
        refine RS.q rfl (QO.pickT (by rfl) hb23 (by rfl)) ?_
        refine RS.q rfl (QO.pickT (by rfl) hb22 (by rfl)) ?_
        refine RS.q rfl (QO.move) ?_
        refine RS.on (dj := 34) rfl (congrArg Value.bool rfl) ?_
        refine RS.q rfl (QO.move) ?_
        refine RS.on (dj := 34) rfl (congrArg Value.bool rfl) ?_
        refine RS.q rfl (QO.lss (by rfl) (by rfl)) ?_
        refine RS.on (dj := 34) rfl (congrArg Value.bool rfl) ?_
        refine RS.q rfl (QO.move) ?_
        refine RS.split (dj := 37) (by rfl) (fun hb24 => ?_) (fun hb24 => ?_)
        · have hb24p := of_decide_eq_true hb24
          refine RS.off (dj := 37) rfl (.inl (congrArg Value.bool hb24)) (fun _ => rfl) rfl ?_
          refine RS.off (dj := 37) rfl (.inl (congrArg Value.bool hb24)) (fun _ => rfl) rfl ?_
          refine RS.on (dj := 34) rfl (congrArg Value.bool rfl) ?_
          refine RS.q rfl (QO.pickT (by rfl) hb24 (by rfl)) ?_
          refine RS.q rfl (QO.pickT (by rfl) rfl (by rfl)) ?_
          refine RS.q rfl (QO.move) ?_
          refine RS.on (dj := 42) rfl (congrArg Value.bool rfl) ?_
          refine RS.q rfl (QO.move) ?_
          refine RS.on (dj := 42) rfl (congrArg Value.bool rfl) ?_
          refine RS.q rfl (QO.neq (by rfl) (by rfl)) ?_
          refine RS.q rfl (QO.pickT (by rfl) rfl (by rfl)) ?_
          refine RS.q rfl (QO.move) ?_
          refine RS.split (dj := 46) (by rfl) (fun hb25 => ?_) (fun hb25 => ?_)
          · have hb25p := bne_iff_ne.1 hb25
            refine RS.on (dj := 46) rfl (congrArg Value.bool hb25) ?_
            refine RS.q rfl (QO.move) ?_
            refine RS.on (dj := 46) rfl (congrArg Value.bool hb25) ?_
            refine RS.q rfl (QO.neq (by rfl) (by rfl)) ?_
            refine RS.q rfl (QO.pickT (by rfl) hb25 (by rfl)) ?_
            refine RS.q rfl (QO.move) ?_
            refine RS.split (dj := 50) (by rfl) (fun hb26 => ?_) (fun hb26 => ?_)
            · have hb26p := bne_iff_ne.1 hb26
              refine RS.on (dj := 50) rfl (congrArg Value.bool hb26) ?_
              refine RS.q rfl (QO.move) ?_
              refine RS.on (dj := 50) rfl (congrArg Value.bool hb26) ?_
              refine RS.q rfl (QO.neq (by rfl) (by rfl)) ?_
              refine RS.q rfl (QO.pickT (by rfl) hb26 (by rfl)) ?_
              refine RS.nil ?_
              refine thenC_n ?_
              refine CS.cond (by rfl) (fun hb27 => ?_) (fun hb27 => ?_)
              · have hb27p := bne_iff_ne.1 hb27
                refine CS.seq ?_
                refine CS.region ?_
                refine RS.q rfl (QO.assign) ?_
                refine RS.nil ?_
                refine thenC_n ?_
                refine CS.ret ?_
                refine blockC_r ?_
                refine thenC_r ?_
                refine loopQ_r ?_
                refine blockC_r ?_
                refine thenC_r ?_
                refine retQ.mk (H' := []) (.inr rfl) (RVs.tmp (by rfl) RVs.nil) (List.nil_sublist _) ?_
                exact ⟨congrArg Value.bool (by first | exact nameB_6 (by assumption) | exact nameB_7 (by assumption) | exact nameB_4 (k := k) (by omega) (nc_no (by omega)) | exact nameB_5 (by assumption) (by assumption) (fun j hj => hall j (by omega))), rfl⟩
              have hb27p := of_bne_false hb27
              refine CS.skip ?_
              refine blockC_n ?_
              refine thenC_n ?_
              refine CS.region ?_
              refine RS.q rfl (QO.add (by rfl) (by rfl) (by omega) (by omega)) ?_
              refine RS.q rfl (QO.move) ?_
              refine RS.nil ?_
              refine loopQ_n (by intro t ht; repeat (first | with_reducible exact rfl | exact frame_puts ht (frame_mix ht) _ rfl | (refine frame_put rfl ht ?_) | (refine frame_puts ht ?_ _ rfl) | exact frame_mix ht | (refine frame_mix2 rfl ht ?_) | exact rfl)) ?_
              exact ⟨k + 1, ⟨by omega, fun j hj => by
                  by_cases e : j = k
                  · subst e; exact nc_yes (by omega)
                  · exact hall j (by omega)⟩, by omega, (by repeat (first | exact kn_nil | refine kn_cons (by rfl) ?_)), (by repeat (first | exact List.Sublist.refl _ | exact List.nil_sublist _ | refine List.Sublist.cons_cons _ ?_ | refine List.Sublist.cons _ ?_ | exact Sbp.refl | exact Sbp.nil | refine Sbp.cons (by repeat (first | exact Rem.head | apply Rem.tail)) ?_ | exact Sbp.app | refine Sbp.skip ?_))⟩
            have hb26p := of_bne_false hb26
            refine RS.off (dj := 50) rfl (.inl (congrArg Value.bool hb26)) (fun _ => rfl) rfl ?_
            refine RS.off (dj := 50) rfl (.inl (congrArg Value.bool hb26)) (fun _ => rfl) rfl ?_
            refine RS.q rfl (QO.pickF (by rfl) hb26 (by rfl)) ?_
            refine RS.nil ?_
            refine thenC_n ?_
            refine CS.condF (by rfl) rfl ?_
            refine CS.skip ?_
            refine blockC_n ?_
            refine thenC_n ?_
            refine CS.region ?_
            refine RS.q rfl (QO.add (by rfl) (by rfl) (by omega) (by omega)) ?_
            refine RS.q rfl (QO.move) ?_
            refine RS.nil ?_
            refine loopQ_n (by intro t ht; repeat (first | with_reducible exact rfl | exact frame_puts ht (frame_mix ht) _ rfl | (refine frame_put rfl ht ?_) | (refine frame_puts ht ?_ _ rfl) | exact frame_mix ht | (refine frame_mix2 rfl ht ?_) | exact rfl)) ?_
            exact ⟨k + 1, ⟨by omega, fun j hj => by
                by_cases e : j = k
                · subst e; exact nc_yes (by omega)
                · exact hall j (by omega)⟩, by omega, (by repeat (first | exact kn_nil | refine kn_cons (by rfl) ?_)), (by repeat (first | exact List.Sublist.refl _ | exact List.nil_sublist _ | refine List.Sublist.cons_cons _ ?_ | refine List.Sublist.cons _ ?_ | exact Sbp.refl | exact Sbp.nil | refine Sbp.cons (by repeat (first | exact Rem.head | apply Rem.tail)) ?_ | exact Sbp.app | refine Sbp.skip ?_))⟩
          have hb25p := of_bne_false hb25
          refine RS.off (dj := 46) rfl (.inl (congrArg Value.bool hb25)) (fun _ => rfl) rfl ?_
          refine RS.off (dj := 46) rfl (.inl (congrArg Value.bool hb25)) (fun _ => rfl) rfl ?_
          refine RS.q rfl (QO.pickF (by rfl) hb25 (by rfl)) ?_
          refine RS.q rfl (QO.move) ?_
          refine RS.off (dj := 50) rfl (.inl (congrArg Value.bool rfl)) (fun _ => rfl) rfl ?_
          refine RS.off (dj := 50) rfl (.inl (congrArg Value.bool rfl)) (fun _ => rfl) rfl ?_
          refine RS.q rfl (QO.pickF (by rfl) rfl (by rfl)) ?_
          refine RS.nil ?_
          refine thenC_n ?_
          refine CS.condF (by rfl) rfl ?_
          refine CS.skip ?_
          refine blockC_n ?_
          refine thenC_n ?_
          refine CS.region ?_
          refine RS.q rfl (QO.add (by rfl) (by rfl) (by omega) (by omega)) ?_
          refine RS.q rfl (QO.move) ?_
          refine RS.nil ?_
          refine loopQ_n (by intro t ht; repeat (first | with_reducible exact rfl | exact frame_puts ht (frame_mix ht) _ rfl | (refine frame_put rfl ht ?_) | (refine frame_puts ht ?_ _ rfl) | exact frame_mix ht | (refine frame_mix2 rfl ht ?_) | exact rfl)) ?_
          exact ⟨k + 1, ⟨by omega, fun j hj => by
              by_cases e : j = k
              · subst e; exact nc_yes (by omega)
              · exact hall j (by omega)⟩, by omega, (by repeat (first | exact kn_nil | refine kn_cons (by rfl) ?_)), (by repeat (first | exact List.Sublist.refl _ | exact List.nil_sublist _ | refine List.Sublist.cons_cons _ ?_ | refine List.Sublist.cons _ ?_ | exact Sbp.refl | exact Sbp.nil | refine Sbp.cons (by repeat (first | exact Rem.head | apply Rem.tail)) ?_ | exact Sbp.app | refine Sbp.skip ?_))⟩
        have hb24p := of_decide_eq_false hb24
        refine RS.on (dj := 37) rfl (congrArg Value.bool hb24) ?_
        refine RS.q rfl (QO.move) ?_
        refine RS.on (dj := 37) rfl (congrArg Value.bool hb24) ?_
        refine RS.q rfl (QO.gtr (by rfl) (by rfl)) ?_
        refine RS.on (dj := 34) rfl (congrArg Value.bool rfl) ?_
        refine RS.q rfl (QO.pickF (by rfl) hb24 (by rfl)) ?_
        refine RS.q rfl (QO.pickT (by rfl) rfl (by rfl)) ?_
        refine RS.q rfl (QO.move) ?_
        refine RS.split (dj := 42) (by rfl) (fun hb28 => ?_) (fun hb28 => ?_)
        · have hb28p := of_decide_eq_true hb28
          refine RS.on (dj := 42) rfl (congrArg Value.bool hb28) ?_
          refine RS.q rfl (QO.move) ?_
          refine RS.on (dj := 42) rfl (congrArg Value.bool hb28) ?_
          refine RS.q rfl (QO.neq (by rfl) (by rfl)) ?_
          refine RS.q rfl (QO.pickT (by rfl) hb28 (by rfl)) ?_
          refine RS.q rfl (QO.move) ?_
          refine RS.split (dj := 46) (by rfl) (fun hb29 => ?_) (fun hb29 => ?_)
          · have hb29p := bne_iff_ne.1 hb29
            refine RS.on (dj := 46) rfl (congrArg Value.bool hb29) ?_
            refine RS.q rfl (QO.move) ?_
            refine RS.on (dj := 46) rfl (congrArg Value.bool hb29) ?_
            refine RS.q rfl (QO.neq (by rfl) (by rfl)) ?_
            refine RS.q rfl (QO.pickT (by rfl) hb29 (by rfl)) ?_
            refine RS.q rfl (QO.move) ?_
            refine RS.split (dj := 50) (by rfl) (fun hb30 => ?_) (fun hb30 => ?_)
            · have hb30p := bne_iff_ne.1 hb30
              refine RS.on (dj := 50) rfl (congrArg Value.bool hb30) ?_
              refine RS.q rfl (QO.move) ?_
              refine RS.on (dj := 50) rfl (congrArg Value.bool hb30) ?_
              refine RS.q rfl (QO.neq (by rfl) (by rfl)) ?_
              refine RS.q rfl (QO.pickT (by rfl) hb30 (by rfl)) ?_
              refine RS.nil ?_
              refine thenC_n ?_
              refine CS.cond (by rfl) (fun hb31 => ?_) (fun hb31 => ?_)
              · have hb31p := bne_iff_ne.1 hb31
                refine CS.seq ?_
                refine CS.region ?_
                refine RS.q rfl (QO.assign) ?_
                refine RS.nil ?_
                refine thenC_n ?_
                refine CS.ret ?_
                refine blockC_r ?_
                refine thenC_r ?_
                refine loopQ_r ?_
                refine blockC_r ?_
                refine thenC_r ?_
                refine retQ.mk (H' := []) (.inr rfl) (RVs.tmp (by rfl) RVs.nil) (List.nil_sublist _) ?_
                exact ⟨congrArg Value.bool (by first | exact nameB_6 (by assumption) | exact nameB_7 (by assumption) | exact nameB_4 (k := k) (by omega) (nc_no (by omega)) | exact nameB_5 (by assumption) (by assumption) (fun j hj => hall j (by omega))), rfl⟩
              have hb31p := of_bne_false hb31
              refine CS.skip ?_
              refine blockC_n ?_
              refine thenC_n ?_
              refine CS.region ?_
              refine RS.q rfl (QO.add (by rfl) (by rfl) (by omega) (by omega)) ?_
              refine RS.q rfl (QO.move) ?_
              refine RS.nil ?_
              refine loopQ_n (by intro t ht; repeat (first | with_reducible exact rfl | exact frame_puts ht (frame_mix ht) _ rfl | (refine frame_put rfl ht ?_) | (refine frame_puts ht ?_ _ rfl) | exact frame_mix ht | (refine frame_mix2 rfl ht ?_) | exact rfl)) ?_
              exact ⟨k + 1, ⟨by omega, fun j hj => by
                  by_cases e : j = k
                  · subst e; exact nc_yes (by omega)
                  · exact hall j (by omega)⟩, by omega, (by repeat (first | exact kn_nil | refine kn_cons (by rfl) ?_)), (by repeat (first | exact List.Sublist.refl _ | exact List.nil_sublist _ | refine List.Sublist.cons_cons _ ?_ | refine List.Sublist.cons _ ?_ | exact Sbp.refl | exact Sbp.nil | refine Sbp.cons (by repeat (first | exact Rem.head | apply Rem.tail)) ?_ | exact Sbp.app | refine Sbp.skip ?_))⟩
            have hb30p := of_bne_false hb30
            refine RS.off (dj := 50) rfl (.inl (congrArg Value.bool hb30)) (fun _ => rfl) rfl ?_
            refine RS.off (dj := 50) rfl (.inl (congrArg Value.bool hb30)) (fun _ => rfl) rfl ?_
            refine RS.q rfl (QO.pickF (by rfl) hb30 (by rfl)) ?_
            refine RS.nil ?_
            refine thenC_n ?_
            refine CS.condF (by rfl) rfl ?_
            refine CS.skip ?_
            refine blockC_n ?_
            refine thenC_n ?_
            refine CS.region ?_
            refine RS.q rfl (QO.add (by rfl) (by rfl) (by omega) (by omega)) ?_
            refine RS.q rfl (QO.move) ?_
            refine RS.nil ?_
            refine loopQ_n (by intro t ht; repeat (first | with_reducible exact rfl | exact frame_puts ht (frame_mix ht) _ rfl | (refine frame_put rfl ht ?_) | (refine frame_puts ht ?_ _ rfl) | exact frame_mix ht | (refine frame_mix2 rfl ht ?_) | exact rfl)) ?_
            exact ⟨k + 1, ⟨by omega, fun j hj => by
                by_cases e : j = k
                · subst e; exact nc_yes (by omega)
                · exact hall j (by omega)⟩, by omega, (by repeat (first | exact kn_nil | refine kn_cons (by rfl) ?_)), (by repeat (first | exact List.Sublist.refl _ | exact List.nil_sublist _ | refine List.Sublist.cons_cons _ ?_ | refine List.Sublist.cons _ ?_ | exact Sbp.refl | exact Sbp.nil | refine Sbp.cons (by repeat (first | exact Rem.head | apply Rem.tail)) ?_ | exact Sbp.app | refine Sbp.skip ?_))⟩
          have hb29p := of_bne_false hb29
          refine RS.off (dj := 46) rfl (.inl (congrArg Value.bool hb29)) (fun _ => rfl) rfl ?_
          refine RS.off (dj := 46) rfl (.inl (congrArg Value.bool hb29)) (fun _ => rfl) rfl ?_
          refine RS.q rfl (QO.pickF (by rfl) hb29 (by rfl)) ?_
          refine RS.q rfl (QO.move) ?_
          refine RS.off (dj := 50) rfl (.inl (congrArg Value.bool rfl)) (fun _ => rfl) rfl ?_
          refine RS.off (dj := 50) rfl (.inl (congrArg Value.bool rfl)) (fun _ => rfl) rfl ?_
          refine RS.q rfl (QO.pickF (by rfl) rfl (by rfl)) ?_
          refine RS.nil ?_
          refine thenC_n ?_
          refine CS.condF (by rfl) rfl ?_
          refine CS.skip ?_
          refine blockC_n ?_
          refine thenC_n ?_
          refine CS.region ?_
          refine RS.q rfl (QO.add (by rfl) (by rfl) (by omega) (by omega)) ?_
          refine RS.q rfl (QO.move) ?_
          refine RS.nil ?_
          refine loopQ_n (by intro t ht; repeat (first | with_reducible exact rfl | exact frame_puts ht (frame_mix ht) _ rfl | (refine frame_put rfl ht ?_) | (refine frame_puts ht ?_ _ rfl) | exact frame_mix ht | (refine frame_mix2 rfl ht ?_) | exact rfl)) ?_
          exact ⟨k + 1, ⟨by omega, fun j hj => by
              by_cases e : j = k
              · subst e; exact nc_yes (by omega)
              · exact hall j (by omega)⟩, by omega, (by repeat (first | exact kn_nil | refine kn_cons (by rfl) ?_)), (by repeat (first | exact List.Sublist.refl _ | exact List.nil_sublist _ | refine List.Sublist.cons_cons _ ?_ | refine List.Sublist.cons _ ?_ | exact Sbp.refl | exact Sbp.nil | refine Sbp.cons (by repeat (first | exact Rem.head | apply Rem.tail)) ?_ | exact Sbp.app | refine Sbp.skip ?_))⟩
        have hb28p := of_decide_eq_false hb28
        refine RS.off (dj := 42) rfl (.inl (congrArg Value.bool hb28)) (fun _ => rfl) rfl ?_
        refine RS.off (dj := 42) rfl (.inl (congrArg Value.bool hb28)) (fun _ => rfl) rfl ?_
        refine RS.q rfl (QO.pickF (by rfl) hb28 (by rfl)) ?_
        refine RS.q rfl (QO.move) ?_
        refine RS.off (dj := 46) rfl (.inl (congrArg Value.bool rfl)) (fun _ => rfl) rfl ?_
        refine RS.off (dj := 46) rfl (.inl (congrArg Value.bool rfl)) (fun _ => rfl) rfl ?_
        refine RS.q rfl (QO.pickF (by rfl) rfl (by rfl)) ?_
        refine RS.q rfl (QO.move) ?_
        refine RS.off (dj := 50) rfl (.inl (congrArg Value.bool rfl)) (fun _ => rfl) rfl ?_
        refine RS.off (dj := 50) rfl (.inl (congrArg Value.bool rfl)) (fun _ => rfl) rfl ?_
        refine RS.q rfl (QO.pickF (by rfl) rfl (by rfl)) ?_
        refine RS.nil ?_
        refine thenC_n ?_
        refine CS.condF (by rfl) rfl ?_
        refine CS.skip ?_
        refine blockC_n ?_
        refine thenC_n ?_
        refine CS.region ?_
        refine RS.q rfl (QO.add (by rfl) (by rfl) (by omega) (by omega)) ?_
        refine RS.q rfl (QO.move) ?_
        refine RS.nil ?_
        refine loopQ_n (by intro t ht; repeat (first | with_reducible exact rfl | exact frame_puts ht (frame_mix ht) _ rfl | (refine frame_put rfl ht ?_) | (refine frame_puts ht ?_ _ rfl) | exact frame_mix ht | (refine frame_mix2 rfl ht ?_) | exact rfl)) ?_
        exact ⟨k + 1, ⟨by omega, fun j hj => by
            by_cases e : j = k
            · subst e; exact nc_yes (by omega)
            · exact hall j (by omega)⟩, by omega, (by repeat (first | exact kn_nil | refine kn_cons (by rfl) ?_)), (by repeat (first | exact List.Sublist.refl _ | exact List.nil_sublist _ | refine List.Sublist.cons_cons _ ?_ | refine List.Sublist.cons _ ?_ | exact Sbp.refl | exact Sbp.nil | refine Sbp.cons (by repeat (first | exact Rem.head | apply Rem.tail)) ?_ | exact Sbp.app | refine Sbp.skip ?_))⟩
      have hb23p := of_decide_eq_false hb23
      refine RS.on (dj := 29) rfl (congrArg Value.bool hb23) ?_
      refine RS.q rfl (QO.move) ?_
      refine RS.on (dj := 29) rfl (congrArg Value.bool hb23) ?_
      refine RS.q rfl (QO.gtr (by rfl) (by rfl)) ?_
      refine RS.on (dj := 26) rfl (congrArg Value.bool hb22) ?_
      refine RS.q rfl (QO.pickF (by rfl) hb23 (by rfl)) ?_
      refine RS.q rfl (QO.pickT (by rfl) hb22 (by rfl)) ?_
      refine RS.q rfl (QO.move) ?_
      refine RS.split (dj := 34) (by rfl) (fun hb32 => ?_) (fun hb32 => ?_)
      · have hb32p := of_decide_eq_true hb32
        refine RS.on (dj := 34) rfl (congrArg Value.bool hb32) ?_
        refine RS.q rfl (QO.move) ?_
        refine RS.on (dj := 34) rfl (congrArg Value.bool hb32) ?_
        refine RS.q rfl (QO.lss (by rfl) (by rfl)) ?_
        refine RS.on (dj := 34) rfl (congrArg Value.bool hb32) ?_
        refine RS.q rfl (QO.move) ?_
        refine RS.split (dj := 37) (by rfl) (fun hb33 => ?_) (fun hb33 => ?_)
        · have hb33p := of_decide_eq_true hb33
          refine RS.off (dj := 37) rfl (.inl (congrArg Value.bool hb33)) (fun _ => rfl) rfl ?_
          refine RS.off (dj := 37) rfl (.inl (congrArg Value.bool hb33)) (fun _ => rfl) rfl ?_
          refine RS.on (dj := 34) rfl (congrArg Value.bool hb32) ?_
          refine RS.q rfl (QO.pickT (by rfl) hb33 (by rfl)) ?_
          refine RS.q rfl (QO.pickT (by rfl) hb32 (by rfl)) ?_
          refine RS.q rfl (QO.move) ?_
          refine RS.on (dj := 42) rfl (congrArg Value.bool rfl) ?_
          refine RS.q rfl (QO.move) ?_
          refine RS.on (dj := 42) rfl (congrArg Value.bool rfl) ?_
          refine RS.q rfl (QO.neq (by rfl) (by rfl)) ?_
          refine RS.q rfl (QO.pickT (by rfl) rfl (by rfl)) ?_
          refine RS.q rfl (QO.move) ?_
          refine RS.split (dj := 46) (by rfl) (fun hb34 => ?_) (fun hb34 => ?_)
          · have hb34p := bne_iff_ne.1 hb34
            refine RS.on (dj := 46) rfl (congrArg Value.bool hb34) ?_
            refine RS.q rfl (QO.move) ?_
            refine RS.on (dj := 46) rfl (congrArg Value.bool hb34) ?_
            refine RS.q rfl (QO.neq (by rfl) (by rfl)) ?_
            refine RS.q rfl (QO.pickT (by rfl) hb34 (by rfl)) ?_
            refine RS.q rfl (QO.move) ?_
            refine RS.split (dj := 50) (by rfl) (fun hb35 => ?_) (fun hb35 => ?_)
            · have hb35p := bne_iff_ne.1 hb35
              refine RS.on (dj := 50) rfl (congrArg Value.bool hb35) ?_
              refine RS.q rfl (QO.move) ?_
              refine RS.on (dj := 50) rfl (congrArg Value.bool hb35) ?_
              refine RS.q rfl (QO.neq (by rfl) (by rfl)) ?_
              refine RS.q rfl (QO.pickT (by rfl) hb35 (by rfl)) ?_
              refine RS.nil ?_
              refine thenC_n ?_
              refine CS.cond (by rfl) (fun hb36 => ?_) (fun hb36 => ?_)
              · have hb36p := bne_iff_ne.1 hb36
                refine CS.seq ?_
                refine CS.region ?_
                refine RS.q rfl (QO.assign) ?_
                refine RS.nil ?_
                refine thenC_n ?_
                refine CS.ret ?_
                refine blockC_r ?_
                refine thenC_r ?_
                refine loopQ_r ?_
                refine blockC_r ?_
                refine thenC_r ?_
                refine retQ.mk (H' := []) (.inr rfl) (RVs.tmp (by rfl) RVs.nil) (List.nil_sublist _) ?_
                exact ⟨congrArg Value.bool (by first | exact nameB_6 (by assumption) | exact nameB_7 (by assumption) | exact nameB_4 (k := k) (by omega) (nc_no (by omega)) | exact nameB_5 (by assumption) (by assumption) (fun j hj => hall j (by omega))), rfl⟩
              have hb36p := of_bne_false hb36
              refine CS.skip ?_
              refine blockC_n ?_
              refine thenC_n ?_
              refine CS.region ?_
              refine RS.q rfl (QO.add (by rfl) (by rfl) (by omega) (by omega)) ?_
              refine RS.q rfl (QO.move) ?_
              refine RS.nil ?_
              refine loopQ_n (by intro t ht; repeat (first | with_reducible exact rfl | exact frame_puts ht (frame_mix ht) _ rfl | (refine frame_put rfl ht ?_) | (refine frame_puts ht ?_ _ rfl) | exact frame_mix ht | (refine frame_mix2 rfl ht ?_) | exact rfl)) ?_
              exact ⟨k + 1, ⟨by omega, fun j hj => by
                  by_cases e : j = k
                  · subst e; exact nc_yes (by omega)
                  · exact hall j (by omega)⟩, by omega, (by repeat (first | exact kn_nil | refine kn_cons (by rfl) ?_)), (by repeat (first | exact List.Sublist.refl _ | exact List.nil_sublist _ | refine List.Sublist.cons_cons _ ?_ | refine List.Sublist.cons _ ?_ | exact Sbp.refl | exact Sbp.nil | refine Sbp.cons (by repeat (first | exact Rem.head | apply Rem.tail)) ?_ | exact Sbp.app | refine Sbp.skip ?_))⟩
            have hb35p := of_bne_false hb35
            refine RS.off (dj := 50) rfl (.inl (congrArg Value.bool hb35)) (fun _ => rfl) rfl ?_
            refine RS.off (dj := 50) rfl (.inl (congrArg Value.bool hb35)) (fun _ => rfl) rfl ?_
            refine RS.q rfl (QO.pickF (by rfl) hb35 (by rfl)) ?_
            refine RS.nil ?_
            refine thenC_n ?_
            refine CS.condF (by rfl) rfl ?_
            refine CS.skip ?_
            refine blockC_n ?_
            refine thenC_n ?_
            refine CS.region ?_
            refine RS.q rfl (QO.add (by rfl) (by rfl) (by omega) (by omega)) ?_
            refine RS.q rfl (QO.move) ?_
            refine RS.nil ?_
            refine loopQ_n (by intro t ht; repeat (first | with_reducible exact rfl | exact frame_puts ht (frame_mix ht) _ rfl | (refine frame_put rfl ht ?_) | (refine frame_puts ht ?_ _ rfl) | exact frame_mix ht | (refine frame_mix2 rfl ht ?_) | exact rfl)) ?_
            exact ⟨k + 1, ⟨by omega, fun j hj => by
                by_cases e : j = k
                · subst e; exact nc_yes (by omega)
                · exact hall j (by omega)⟩, by omega, (by repeat (first | exact kn_nil | refine kn_cons (by rfl) ?_)), (by repeat (first | exact List.Sublist.refl _ | exact List.nil_sublist _ | refine List.Sublist.cons_cons _ ?_ | refine List.Sublist.cons _ ?_ | exact Sbp.refl | exact Sbp.nil | refine Sbp.cons (by repeat (first | exact Rem.head | apply Rem.tail)) ?_ | exact Sbp.app | refine Sbp.skip ?_))⟩
          have hb34p := of_bne_false hb34
          refine RS.off (dj := 46) rfl (.inl (congrArg Value.bool hb34)) (fun _ => rfl) rfl ?_
          refine RS.off (dj := 46) rfl (.inl (congrArg Value.bool hb34)) (fun _ => rfl) rfl ?_
          refine RS.q rfl (QO.pickF (by rfl) hb34 (by rfl)) ?_
          refine RS.q rfl (QO.move) ?_
          refine RS.off (dj := 50) rfl (.inl (congrArg Value.bool rfl)) (fun _ => rfl) rfl ?_
          refine RS.off (dj := 50) rfl (.inl (congrArg Value.bool rfl)) (fun _ => rfl) rfl ?_
          refine RS.q rfl (QO.pickF (by rfl) rfl (by rfl)) ?_
          refine RS.nil ?_
          refine thenC_n ?_
          refine CS.condF (by rfl) rfl ?_
          refine CS.skip ?_
          refine blockC_n ?_
          refine thenC_n ?_
          refine CS.region ?_
          refine RS.q rfl (QO.add (by rfl) (by rfl) (by omega) (by omega)) ?_
          refine RS.q rfl (QO.move) ?_
          refine RS.nil ?_
          refine loopQ_n (by intro t ht; repeat (first | with_reducible exact rfl | exact frame_puts ht (frame_mix ht) _ rfl | (refine frame_put rfl ht ?_) | (refine frame_puts ht ?_ _ rfl) | exact frame_mix ht | (refine frame_mix2 rfl ht ?_) | exact rfl)) ?_
          exact ⟨k + 1, ⟨by omega, fun j hj => by
              by_cases e : j = k
              · subst e; exact nc_yes (by omega)
              · exact hall j (by omega)⟩, by omega, (by repeat (first | exact kn_nil | refine kn_cons (by rfl) ?_)), (by repeat (first | exact List.Sublist.refl _ | exact List.nil_sublist _ | refine List.Sublist.cons_cons _ ?_ | refine List.Sublist.cons _ ?_ | exact Sbp.refl | exact Sbp.nil | refine Sbp.cons (by repeat (first | exact Rem.head | apply Rem.tail)) ?_ | exact Sbp.app | refine Sbp.skip ?_))⟩
        have hb33p := of_decide_eq_false hb33
        refine RS.on (dj := 37) rfl (congrArg Value.bool hb33) ?_
        refine RS.q rfl (QO.move) ?_
        refine RS.on (dj := 37) rfl (congrArg Value.bool hb33) ?_
        refine RS.q rfl (QO.gtr (by rfl) (by rfl)) ?_
        refine RS.on (dj := 34) rfl (congrArg Value.bool hb32) ?_
        refine RS.q rfl (QO.pickF (by rfl) hb33 (by rfl)) ?_
        refine RS.q rfl (QO.pickT (by rfl) hb32 (by rfl)) ?_
        refine RS.q rfl (QO.move) ?_
        refine RS.split (dj := 42) (by rfl) (fun hb37 => ?_) (fun hb37 => ?_)
        · have hb37p := of_decide_eq_true hb37
          refine RS.on (dj := 42) rfl (congrArg Value.bool hb37) ?_
          refine RS.q rfl (QO.move) ?_
          refine RS.on (dj := 42) rfl (congrArg Value.bool hb37) ?_
          refine RS.q rfl (QO.neq (by rfl) (by rfl)) ?_
          refine RS.q rfl (QO.pickT (by rfl) hb37 (by rfl)) ?_
          refine RS.q rfl (QO.move) ?_
          refine RS.split (dj := 46) (by rfl) (fun hb38 => ?_) (fun hb38 => ?_)
          · have hb38p := bne_iff_ne.1 hb38
            refine RS.on (dj := 46) rfl (congrArg Value.bool hb38) ?_
            refine RS.q rfl (QO.move) ?_
            refine RS.on (dj := 46) rfl (congrArg Value.bool hb38) ?_
            refine RS.q rfl (QO.neq (by rfl) (by rfl)) ?_
            refine RS.q rfl (QO.pickT (by rfl) hb38 (by rfl)) ?_
            refine RS.q rfl (QO.move) ?_
            refine RS.split (dj := 50) (by rfl) (fun hb39 => ?_) (fun hb39 => ?_)
            · have hb39p := bne_iff_ne.1 hb39
              refine RS.on (dj := 50) rfl (congrArg Value.bool hb39) ?_
              refine RS.q rfl (QO.move) ?_
              refine RS.on (dj := 50) rfl (congrArg Value.bool hb39) ?_
              refine RS.q rfl (QO.neq (by rfl) (by rfl)) ?_
              refine RS.q rfl (QO.pickT (by rfl) hb39 (by rfl)) ?_
              refine RS.nil ?_
              refine thenC_n ?_
              refine CS.cond (by rfl) (fun hb40 => ?_) (fun hb40 => ?_)
              · have hb40p := bne_iff_ne.1 hb40
                refine CS.seq ?_
                refine CS.region ?_
                refine RS.q rfl (QO.assign) ?_
                refine RS.nil ?_
                refine thenC_n ?_
                refine CS.ret ?_
                refine blockC_r ?_
                refine thenC_r ?_
                refine loopQ_r ?_
                refine blockC_r ?_
                refine thenC_r ?_
                refine retQ.mk (H' := []) (.inr rfl) (RVs.tmp (by rfl) RVs.nil) (List.nil_sublist _) ?_
                exact ⟨congrArg Value.bool (by first | exact nameB_6 (by assumption) | exact nameB_7 (by assumption) | exact nameB_4 (k := k) (by omega) (nc_no (by omega)) | exact nameB_5 (by assumption) (by assumption) (fun j hj => hall j (by omega))), rfl⟩
              have hb40p := of_bne_false hb40
              refine CS.skip ?_
              refine blockC_n ?_
              refine thenC_n ?_
              refine CS.region ?_
              refine RS.q rfl (QO.add (by rfl) (by rfl) (by omega) (by omega)) ?_
              refine RS.q rfl (QO.move) ?_
              refine RS.nil ?_
              refine loopQ_n (by intro t ht; repeat (first | with_reducible exact rfl | exact frame_puts ht (frame_mix ht) _ rfl | (refine frame_put rfl ht ?_) | (refine frame_puts ht ?_ _ rfl) | exact frame_mix ht | (refine frame_mix2 rfl ht ?_) | exact rfl)) ?_
              exact ⟨k + 1, ⟨by omega, fun j hj => by
                  by_cases e : j = k
                  · subst e; exact nc_yes (by omega)
                  · exact hall j (by omega)⟩, by omega, (by repeat (first | exact kn_nil | refine kn_cons (by rfl) ?_)), (by repeat (first | exact List.Sublist.refl _ | exact List.nil_sublist _ | refine List.Sublist.cons_cons _ ?_ | refine List.Sublist.cons _ ?_ | exact Sbp.refl | exact Sbp.nil | refine Sbp.cons (by repeat (first | exact Rem.head | apply Rem.tail)) ?_ | exact Sbp.app | refine Sbp.skip ?_))⟩
            have hb39p := of_bne_false hb39
            refine RS.off (dj := 50) rfl (.inl (congrArg Value.bool hb39)) (fun _ => rfl) rfl ?_
            refine RS.off (dj := 50) rfl (.inl (congrArg Value.bool hb39)) (fun _ => rfl) rfl ?_
            refine RS.q rfl (QO.pickF (by rfl) hb39 (by rfl)) ?_
            refine RS.nil ?_
            refine thenC_n ?_
            refine CS.condF (by rfl) rfl ?_
            refine CS.skip ?_
            refine blockC_n ?_
            refine thenC_n ?_
            refine CS.region ?_
            refine RS.q rfl (QO.add (by rfl) (by rfl) (by omega) (by omega)) ?_
            refine RS.q rfl (QO.move) ?_
            refine RS.nil ?_
            refine loopQ_n (by intro t ht; repeat (first | with_reducible exact rfl | exact frame_puts ht (frame_mix ht) _ rfl | (refine frame_put rfl ht ?_) | (refine frame_puts ht ?_ _ rfl) | exact frame_mix ht | (refine frame_mix2 rfl ht ?_) | exact rfl)) ?_
            exact ⟨k + 1, ⟨by omega, fun j hj => by
                by_cases e : j = k
                · subst e; exact nc_yes (by omega)
                · exact hall j (by omega)⟩, by omega, (by repeat (first | exact kn_nil | refine kn_cons (by rfl) ?_)), (by repeat (first | exact List.Sublist.refl _ | exact List.nil_sublist _ | refine List.Sublist.cons_cons _ ?_ | refine List.Sublist.cons _ ?_ | exact Sbp.refl | exact Sbp.nil | refine Sbp.cons (by repeat (first | exact Rem.head | apply Rem.tail)) ?_ | exact Sbp.app | refine Sbp.skip ?_))⟩
          have hb38p := of_bne_false hb38
          refine RS.off (dj := 46) rfl (.inl (congrArg Value.bool hb38)) (fun _ => rfl) rfl ?_
          refine RS.off (dj := 46) rfl (.inl (congrArg Value.bool hb38)) (fun _ => rfl) rfl ?_
          refine RS.q rfl (QO.pickF (by rfl) hb38 (by rfl)) ?_
          refine RS.q rfl (QO.move) ?_
          refine RS.off (dj := 50) rfl (.inl (congrArg Value.bool rfl)) (fun _ => rfl) rfl ?_
          refine RS.off (dj := 50) rfl (.inl (congrArg Value.bool rfl)) (fun _ => rfl) rfl ?_
          refine RS.q rfl (QO.pickF (by rfl) rfl (by rfl)) ?_
          refine RS.nil ?_
          refine thenC_n ?_
          refine CS.condF (by rfl) rfl ?_
          refine CS.skip ?_
          refine blockC_n ?_
          refine thenC_n ?_
          refine CS.region ?_
          refine RS.q rfl (QO.add (by rfl) (by rfl) (by omega) (by omega)) ?_
          refine RS.q rfl (QO.move) ?_
          refine RS.nil ?_
          refine loopQ_n (by intro t ht; repeat (first | with_reducible exact rfl | exact frame_puts ht (frame_mix ht) _ rfl | (refine frame_put rfl ht ?_) | (refine frame_puts ht ?_ _ rfl) | exact frame_mix ht | (refine frame_mix2 rfl ht ?_) | exact rfl)) ?_
          exact ⟨k + 1, ⟨by omega, fun j hj => by
              by_cases e : j = k
              · subst e; exact nc_yes (by omega)
              · exact hall j (by omega)⟩, by omega, (by repeat (first | exact kn_nil | refine kn_cons (by rfl) ?_)), (by repeat (first | exact List.Sublist.refl _ | exact List.nil_sublist _ | refine List.Sublist.cons_cons _ ?_ | refine List.Sublist.cons _ ?_ | exact Sbp.refl | exact Sbp.nil | refine Sbp.cons (by repeat (first | exact Rem.head | apply Rem.tail)) ?_ | exact Sbp.app | refine Sbp.skip ?_))⟩
        have hb37p := of_decide_eq_false hb37
        refine RS.off (dj := 42) rfl (.inl (congrArg Value.bool hb37)) (fun _ => rfl) rfl ?_
        refine RS.off (dj := 42) rfl (.inl (congrArg Value.bool hb37)) (fun _ => rfl) rfl ?_
        refine RS.q rfl (QO.pickF (by rfl) hb37 (by rfl)) ?_
        refine RS.q rfl (QO.move) ?_
        refine RS.off (dj := 46) rfl (.inl (congrArg Value.bool rfl)) (fun _ => rfl) rfl ?_
        refine RS.off (dj := 46) rfl (.inl (congrArg Value.bool rfl)) (fun _ => rfl) rfl ?_
        refine RS.q rfl (QO.pickF (by rfl) rfl (by rfl)) ?_
        refine RS.q rfl (QO.move) ?_
        refine RS.off (dj := 50) rfl (.inl (congrArg Value.bool rfl)) (fun _ => rfl) rfl ?_
        refine RS.off (dj := 50) rfl (.inl (congrArg Value.bool rfl)) (fun _ => rfl) rfl ?_
        refine RS.q rfl (QO.pickF (by rfl) rfl (by rfl)) ?_
        refine RS.nil ?_
        refine thenC_n ?_
        refine CS.condF (by rfl) rfl ?_
        refine CS.skip ?_
        refine blockC_n ?_
        refine thenC_n ?_
        refine CS.region ?_
        refine RS.q rfl (QO.add (by rfl) (by rfl) (by omega) (by omega)) ?_
        refine RS.q rfl (QO.move) ?_
        refine RS.nil ?_
        refine loopQ_n (by intro t ht; repeat (first | with_reducible exact rfl | exact frame_puts ht (frame_mix ht) _ rfl | (refine frame_put rfl ht ?_) | (refine frame_puts ht ?_ _ rfl) | exact frame_mix ht | (refine frame_mix2 rfl ht ?_) | exact rfl)) ?_
        exact ⟨k + 1, ⟨by omega, fun j hj => by
            by_cases e : j = k
            · subst e; exact nc_yes (by omega)
            · exact hall j (by omega)⟩, by omega, (by repeat (first | exact kn_nil | refine kn_cons (by rfl) ?_)), (by repeat (first | exact List.Sublist.refl _ | exact List.nil_sublist _ | refine List.Sublist.cons_cons _ ?_ | refine List.Sublist.cons _ ?_ | exact Sbp.refl | exact Sbp.nil | refine Sbp.cons (by repeat (first | exact Rem.head | apply Rem.tail)) ?_ | exact Sbp.app | refine Sbp.skip ?_))⟩
      have hb32p := of_decide_eq_false hb32
      refine RS.off (dj := 34) rfl (.inl (congrArg Value.bool hb32)) (fun _ => rfl) rfl ?_
      refine RS.off (dj := 34) rfl (.inl (congrArg Value.bool hb32)) (fun _ => rfl) rfl ?_
      refine RS.off (dj := 34) rfl (.inl (congrArg Value.bool hb32)) (fun _ => rfl) rfl ?_
      refine RS.off (dj := 37) (c := true) rfl (.inr rfl) (fun h => by cases h) rfl ?_
      refine RS.off (dj := 37) (c := true) rfl (.inr rfl) (fun h => by cases h) rfl ?_
      refine RS.off (dj := 34) rfl (.inl (congrArg Value.bool hb32)) (fun _ => rfl) rfl ?_
      refine RS.q rfl (QO.pickF (by rfl) hb32 (by rfl)) ?_
      refine RS.q rfl (QO.move) ?_
      refine RS.off (dj := 42) rfl (.inl (congrArg Value.bool rfl)) (fun _ => rfl) rfl ?_
      refine RS.off (dj := 42) rfl (.inl (congrArg Value.bool rfl)) (fun _ => rfl) rfl ?_
      refine RS.q rfl (QO.pickF (by rfl) rfl (by rfl)) ?_
      refine RS.q rfl (QO.move) ?_
      refine RS.off (dj := 46) rfl (.inl (congrArg Value.bool rfl)) (fun _ => rfl) rfl ?_
      refine RS.off (dj := 46) rfl (.inl (congrArg Value.bool rfl)) (fun _ => rfl) rfl ?_
      refine RS.q rfl (QO.pickF (by rfl) rfl (by rfl)) ?_
      refine RS.q rfl (QO.move) ?_
      refine RS.off (dj := 50) rfl (.inl (congrArg Value.bool rfl)) (fun _ => rfl) rfl ?_
      refine RS.off (dj := 50) rfl (.inl (congrArg Value.bool rfl)) (fun _ => rfl) rfl ?_
      refine RS.q rfl (QO.pickF (by rfl) rfl (by rfl)) ?_
      refine RS.nil ?_
      refine thenC_n ?_
      refine CS.condF (by rfl) rfl ?_
      refine CS.skip ?_
      refine blockC_n ?_
      refine thenC_n ?_
      refine CS.region ?_
      refine RS.q rfl (QO.add (by rfl) (by rfl) (by omega) (by omega)) ?_
      refine RS.q rfl (QO.move) ?_
      refine RS.nil ?_
      refine loopQ_n (by intro t ht; repeat (first | with_reducible exact rfl | exact frame_puts ht (frame_mix ht) _ rfl | (refine frame_put rfl ht ?_) | (refine frame_puts ht ?_ _ rfl) | exact frame_mix ht | (refine frame_mix2 rfl ht ?_) | exact rfl)) ?_
      exact ⟨k + 1, ⟨by omega, fun j hj => by
          by_cases e : j = k
          · subst e; exact nc_yes (by omega)
          · exact hall j (by omega)⟩, by omega, (by repeat (first | exact kn_nil | refine kn_cons (by rfl) ?_)), (by repeat (first | exact List.Sublist.refl _ | exact List.nil_sublist _ | refine List.Sublist.cons_cons _ ?_ | refine List.Sublist.cons _ ?_ | exact Sbp.refl | exact Sbp.nil | refine Sbp.cons (by repeat (first | exact Rem.head | apply Rem.tail)) ?_ | exact Sbp.app | refine Sbp.skip ?_))⟩
    have hb22p := of_decide_eq_false hb22
    refine RS.off (dj := 26) rfl (.inl (congrArg Value.bool hb22)) (fun _ => rfl) rfl ?_
    refine RS.off (dj := 26) rfl (.inl (congrArg Value.bool hb22)) (fun _ => rfl) rfl ?_
    refine RS.off (dj := 26) rfl (.inl (congrArg Value.bool hb22)) (fun _ => rfl) rfl ?_
    refine RS.off (dj := 29) (c := true) rfl (.inr rfl) (fun h => by cases h) rfl ?_
    refine RS.off (dj := 29) (c := true) rfl (.inr rfl) (fun h => by cases h) rfl ?_
    refine RS.off (dj := 26) rfl (.inl (congrArg Value.bool hb22)) (fun _ => rfl) rfl ?_
    refine RS.q rfl (QO.pickF (by rfl) hb22 (by rfl)) ?_
    refine RS.q rfl (QO.move) ?_
    refine RS.off (dj := 34) rfl (.inl (congrArg Value.bool rfl)) (fun _ => rfl) rfl ?_
    refine RS.off (dj := 34) rfl (.inl (congrArg Value.bool rfl)) (fun _ => rfl) rfl ?_
    refine RS.off (dj := 34) rfl (.inl (congrArg Value.bool rfl)) (fun _ => rfl) rfl ?_
    refine RS.off (dj := 37) (c := true) rfl (.inr rfl) (fun h => by cases h) rfl ?_
    refine RS.off (dj := 37) (c := true) rfl (.inr rfl) (fun h => by cases h) rfl ?_
    refine RS.off (dj := 34) rfl (.inl (congrArg Value.bool rfl)) (fun _ => rfl) rfl ?_
    refine RS.q rfl (QO.pickF (by rfl) rfl (by rfl)) ?_
    refine RS.q rfl (QO.move) ?_
    refine RS.off (dj := 42) rfl (.inl (congrArg Value.bool rfl)) (fun _ => rfl) rfl ?_
    refine RS.off (dj := 42) rfl (.inl (congrArg Value.bool rfl)) (fun _ => rfl) rfl ?_
    refine RS.q rfl (QO.pickF (by rfl) rfl (by rfl)) ?_
    refine RS.q rfl (QO.move) ?_
    refine RS.off (dj := 46) rfl (.inl (congrArg Value.bool rfl)) (fun _ => rfl) rfl ?_
    refine RS.off (dj := 46) rfl (.inl (congrArg Value.bool rfl)) (fun _ => rfl) rfl ?_
    refine RS.q rfl (QO.pickF (by rfl) rfl (by rfl)) ?_
    refine RS.q rfl (QO.move) ?_
    refine RS.off (dj := 50) rfl (.inl (congrArg Value.bool rfl)) (fun _ => rfl) rfl ?_
    refine RS.off (dj := 50) rfl (.inl (congrArg Value.bool rfl)) (fun _ => rfl) rfl ?_
    refine RS.q rfl (QO.pickF (by rfl) rfl (by rfl)) ?_
    refine RS.nil ?_
    refine thenC_n ?_
    refine CS.condF (by rfl) rfl ?_
    refine CS.skip ?_
    refine blockC_n ?_
    refine thenC_n ?_
    refine CS.region ?_
    refine RS.q rfl (QO.add (by rfl) (by rfl) (by omega) (by omega)) ?_
    refine RS.q rfl (QO.move) ?_
    refine RS.nil ?_
    refine loopQ_n (by intro t ht; repeat (first | with_reducible exact rfl | exact frame_puts ht (frame_mix ht) _ rfl | (refine frame_put rfl ht ?_) | (refine frame_puts ht ?_ _ rfl) | exact frame_mix ht | (refine frame_mix2 rfl ht ?_) | exact rfl)) ?_
    exact ⟨k + 1, ⟨by omega, fun j hj => by
        by_cases e : j = k
        · subst e; exact nc_yes (by omega)
        · exact hall j (by omega)⟩, by omega, (by repeat (first | exact kn_nil | refine kn_cons (by rfl) ?_)), (by repeat (first | exact List.Sublist.refl _ | exact List.nil_sublist _ | refine List.Sublist.cons_cons _ ?_ | refine List.Sublist.cons _ ?_ | exact Sbp.refl | exact Sbp.nil | refine Sbp.cons (by repeat (first | exact Rem.head | apply Rem.tail)) ?_ | exact Sbp.app | refine Sbp.skip ?_))⟩
  have hb2p := of_decide_eq_false hb2
  refine CS.exit ?_
  refine thenC_x ?_
  refine loopQ_x ?_
  refine blockC_x ?_
  refine thenC_n ?_
  refine CS.seq ?_
  refine CS.region ?_
  refine RS.q rfl (QO.assign) ?_
  refine RS.nil ?_
  refine thenC_n ?_
  refine CS.ret ?_
  refine retQ.mk (H' := []) (.inr rfl) (RVs.tmp (by rfl) RVs.nil) (List.nil_sublist _) ?_
  exact ⟨congrArg Value.bool (by first | exact nameB_6 (by assumption) | exact nameB_7 (by assumption) | exact nameB_4 (k := k) (by omega) (nc_no (by omega)) | exact nameB_5 (by assumption) (by assumption) (fun j hj => hall j (by omega))), rfl⟩

end Go.Proofs.YtapcgokcfmklbaaDoor

namespace Go.Proofs.YtapcgokcfmklbaaDoor
open Go Go.RowKit

structure Ev where
  reel : List UInt8
  kind : Int
  len : Int
  inn : Int
  out : Int
  at_ : Int
deriving DecidableEq, Inhabited
def evc (e : Ev) : List Value := [sv e.reel, iv e.kind, iv e.len, iv e.inn, iv e.out, iv e.at_]
def evs : List Ev → List Value
  | [] => []
  | e :: l => evc e ++ evs l
theorem evs_len : ∀ l : List Ev, (evs l).length = 6 * l.length
  | [] => rfl
  | e :: l => by simp only [evs, List.length_append, List.length_cons, evs_len l]; show 6 + _ = _; omega
theorem evs_at : ∀ {l : List Ev} {i j : Nat} {e : Ev}, l[i]? = some e → j < 6 → (evs l)[6 * i + j]? = (evc e)[j]?
  | [], i, j, e, h, _ => by simp at h
  | a :: l, 0, j, e, h, hj => by
    have : a = e := by simpa using h
    subst this
    rw [evs, List.getElem?_append_left (by show _ < 6; omega)]
    congr 1; omega
  | a :: l, i + 1, j, e, h, hj => by
    have h2 : l[i]? = some e := by simpa using h
    rw [evs, List.getElem?_append_right (by show 6 ≤ _; omega), ← evs_at h2 hj]
    congr 1
    show 6 * (i + 1) + j - 6 = _; omega
/-- events in memory -/
def ES (w : World) (A : Option Addr) (l : List Ev) : Prop :=
  0 < l.length → ∃ b o, A = some ⟨b, o, none⟩ ∧ ∀ i e, l[i]? = some e → ∀ j v, (evc e)[j]? = some v → w.cell? ⟨b, o + i * 6 + j, none⟩ = some v
theorem ES.own {W w : World} {H : HL} {A : Option Addr} {l : List Ev} (h : ES W A l) (ho : Own W w H) : ES w A l := fun hn => by
  obtain ⟨b, o, h1, h2⟩ := h hn
  exact ⟨b, o, h1, fun i e hi j v hj => ho.old (h2 i e hi j v hj)⟩
theorem ES.blk {W w : World} {H : HL} {g : Nat} {t : TypeId} {l : List Ev} {junk : List Value} (ho : Own W w H) (hm : (⟨g, t, evs l ++ junk⟩ : B) ∈ H) : ES w (some ⟨g, 0, none⟩) l := fun _ => by
  refine ⟨g, 0, rfl, fun i e hi j v hj => ?_⟩
  have hj6 : j < 6 := (List.getElem?_eq_some_iff.1 hj).1
  have hl : i < l.length := (List.getElem?_eq_some_iff.1 hi).1
  refine ho.cellG hm ?_
  rw [Nat.zero_add, Nat.mul_comm, List.getElem?_append_left (by rw [evs_len]; omega), evs_at hi hj6]
  exact hj
theorem ES.at_ {w : World} {A : Option Addr} {l : List Ev} (h : ES w A l) {i : Nat} (hi : i < l.length) : ∃ b o, A = some ⟨b, o, none⟩ ∧ ∀ j v, (evc (l.getD i default))[j]? = some v → w.cell? ((⟨b, o + i * 6, none⟩ : Addr).add j) = some v := by
  obtain ⟨b, o, h1, h2⟩ := h (by omega)
  refine ⟨b, o, h1, fun j v hj => ?_⟩
  rw [addr_add]
  refine h2 i _ ?_ j v hj
  rw [List.getD_eq_getElem?_getD, List.getElem?_eq_getElem hi]; rfl
/-- where an event ends -/
def evEnd (e : Ev) : Int := e.at_ + (e.out - e.inn)
def endB (l : List Ev) (i : Nat) : Int := if i = 0 then 0 else evEnd (l.getD (i - 1) default)
/-- the error of one event -/
def evE1 (e : Ev) (i : Nat) (before : Int) : Int :=
  if nameB e.reel = false then 6
  else if e.kind ≠ 1 ∧ e.kind ≠ 2 then 1
  else if e.inn < 0 ∨ e.out ≤ e.inn ∨ 16777216 < e.out ∨ e.at_ < 0 ∨ 16777216 < e.at_ then 3
  else if e.at_ < before then 8
  else if (e.kind = 1 ∧ e.len ≠ 0) ∨ (e.kind = 2 ∧ (e.len < 1 ∨ 250 < e.len ∨ e.out - e.inn < e.len ∨ i = 0 ∨ e.at_ ≠ before)) then 12
  else 0
def evErr (l : List Ev) (i : Nat) : Int := evE1 (l.getD i default) i (endB l i)
def edE (title : List UInt8) (rate : Int) (l : List Ev) : Int :=
  if nameB title = false then 6 else if sec rate = 0 then 1 else if 500 < l.length then 4 else firstE (evErr l) l.length
theorem evE1_6 {e : Ev} {f : Nat} {b : Int} (h : nameB e.reel = false) : evE1 e f b = 6 := if_pos h
theorem evE1_1 {e : Ev} {f : Nat} {b : Int} (h : nameB e.reel = true) (h1 : e.kind ≠ 1 ∧ e.kind ≠ 2) : evE1 e f b = 1 := by unfold evE1; rw [if_neg (by rw [h]; decide), if_pos h1]
theorem evE1_3 {e : Ev} {f : Nat} {b : Int} (h : nameB e.reel = true) (h1 : e.kind = 1 ∨ e.kind = 2) (h2 : e.inn < 0 ∨ e.out ≤ e.inn ∨ 16777216 < e.out ∨ e.at_ < 0 ∨ 16777216 < e.at_) : evE1 e f b = 3 := by
  unfold evE1; rw [if_neg (by rw [h]; decide), if_neg (by omega), if_pos h2]
theorem evE1_8 {e : Ev} {f : Nat} {b : Int} (h : nameB e.reel = true) (h1 : e.kind = 1 ∨ e.kind = 2) (h2 : ¬ (e.inn < 0 ∨ e.out ≤ e.inn ∨ 16777216 < e.out ∨ e.at_ < 0 ∨ 16777216 < e.at_)) (h3 : e.at_ < b) : evE1 e f b = 8 := by
  unfold evE1; rw [if_neg (by rw [h]; decide), if_neg (by omega), if_neg h2, if_pos h3]
theorem evE1_12 {e : Ev} {f : Nat} {b : Int} (h : nameB e.reel = true) (h1 : e.kind = 1 ∨ e.kind = 2) (h2 : ¬ (e.inn < 0 ∨ e.out ≤ e.inn ∨ 16777216 < e.out ∨ e.at_ < 0 ∨ 16777216 < e.at_)) (h3 : ¬ e.at_ < b)
    (h4 : (e.kind = 1 ∧ e.len ≠ 0) ∨ (e.kind = 2 ∧ (e.len < 1 ∨ 250 < e.len ∨ e.out - e.inn < e.len ∨ f = 0 ∨ e.at_ ≠ b))) : evE1 e f b = 12 := by
  unfold evE1; rw [if_neg (by rw [h]; decide), if_neg (by omega), if_neg h2, if_neg h3, if_pos h4]
theorem evE1_0 {e : Ev} {f : Nat} {b : Int} (h : nameB e.reel = true) (h1 : e.kind = 1 ∨ e.kind = 2) (h2 : ¬ (e.inn < 0 ∨ e.out ≤ e.inn ∨ 16777216 < e.out ∨ e.at_ < 0 ∨ 16777216 < e.at_)) (h3 : ¬ e.at_ < b)
    (h4 : ¬ ((e.kind = 1 ∧ e.len ≠ 0) ∨ (e.kind = 2 ∧ (e.len < 1 ∨ 250 < e.len ∨ e.out - e.inn < e.len ∨ f = 0 ∨ e.at_ ≠ b)))) : evE1 e f b = 0 := by
  unfold evE1; rw [if_neg (by rw [h]; decide), if_neg (by omega), if_neg h2, if_neg h3, if_neg h4]
/-- what a right event has -/
theorem evE1_ok {e : Ev} {f : Nat} {b : Int} (h : evE1 e f b = 0) : nameB e.reel = true ∧ (e.kind = 1 ∨ e.kind = 2) ∧ 0 ≤ e.inn ∧ e.inn < e.out ∧ e.out ≤ 16777216 ∧ 0 ≤ e.at_ ∧ e.at_ ≤ 16777216 ∧ b ≤ e.at_ ∧
    ¬ ((e.kind = 1 ∧ e.len ≠ 0) ∨ (e.kind = 2 ∧ (e.len < 1 ∨ 250 < e.len ∨ e.out - e.inn < e.len ∨ f = 0 ∨ e.at_ ≠ b))) := by
  unfold evE1 at h
  split at h
  · cases h
  · rename_i h1
    split at h
    · cases h
    · rename_i h2
      split at h
      · cases h
      · rename_i h3
        split at h
        · cases h
        · rename_i h4
          split at h
          · cases h
          · rename_i h5
            exact ⟨by cases hn : nameB e.reel <;> simp_all, by omega, by omega, by omega, by omega, by omega, by omega, by omega, h5⟩
theorem edE_6 {t : List UInt8} {r : Int} {l : List Ev} (h : nameB t = false) : edE t r l = 6 := if_pos h
theorem edE_1 {t : List UInt8} {r : Int} {l : List Ev} (h : nameB t = true) (h1 : sec r = 0) : edE t r l = 1 := by unfold edE; rw [if_neg (by rw [h]; decide), if_pos h1]
theorem edE_4 {t : List UInt8} {r : Int} {l : List Ev} (h : nameB t = true) (h1 : sec r ≠ 0) (h2 : 500 < (l.length : Int)) : edE t r l = 4 := by unfold edE; rw [if_neg (by rw [h]; decide), if_neg h1, if_pos (by omega)]
theorem edE_n {t : List UInt8} {r : Int} {l : List Ev} (h : nameB t = true) (h1 : sec r ≠ 0) (h2 : ¬ 500 < (l.length : Int)) : edE t r l = firstE (evErr l) l.length := by unfold edE; rw [if_neg (by rw [h]; decide), if_neg h1, if_neg (by omega)]
theorem edE_at {t : List UInt8} {r : Int} {l : List Ev} {i : Nat} {x : Int} (h : nameB t = true) (h1 : sec r ≠ 0) (h2 : ¬ 500 < (l.length : Int)) (hz : firstE (evErr l) i = 0) (hi : i < l.length) (hx : evErr l i = x) (h0 : x ≠ 0) : edE t r l = x := by
  rw [edE_n h h1 h2, firstE_at hz (by rw [hx]; exact h0) hi, hx]
theorem endB_succ (l : List Ev) (i : Nat) : endB l (i + 1) = evEnd (l.getD i default) := rfl
theorem firstE_all {f : Nat → Int} : ∀ {n : Nat}, firstE f n = 0 → ∀ i, i < n → f i = 0
  | 0, _, i, h => absurd h (Nat.not_lt_zero _)
  | n + 1, h, i, hi => by
    unfold firstE at h
    split at h
    · rename_i h1; exact absurd h h1
    · rename_i h1
      by_cases e : i = n
      · subst e; exact h
      · exact firstE_all (Decidable.not_not.1 h1) i (by omega)
/-- bounds at the head of a round -/
theorem endB_bd {l : List Ev} {i : Nat} (hz : firstE (evErr l) i = 0) : 0 ≤ endB l i ∧ endB l i ≤ 33554432 := by
  cases i with
  | zero => exact ⟨Int.le_refl _, by show (0 : Int) ≤ 33554432; decide⟩
  | succ i =>
    have := evE1_ok (firstE_all hz i (by omega))
    rw [endB_succ]; unfold evEnd; omega
theorem edE_ok {t : List UInt8} {r : Int} {l : List Ev} (h : edE t r l = 0) : nameB t = true ∧ sec r ≠ 0 ∧ l.length ≤ 500 ∧ ∀ i, i < l.length → evErr l i = 0 := by
  unfold edE at h
  split at h
  · cases h
  · rename_i h1
    split at h
    · cases h
    · rename_i h2
      split at h
      · cases h
      · rename_i h3
        exact ⟨by cases hn : nameB t <;> simp_all, h2, by omega, firstE_all h⟩
end Go.Proofs.YtapcgokcfmklbaaDoor
