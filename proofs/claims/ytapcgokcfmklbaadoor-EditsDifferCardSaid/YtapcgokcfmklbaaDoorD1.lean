/-
  Contracts: time codes. Conditions: as each theorem says.
-/
import Derived.Test.YtapcgokcfmklbaaDoorC2
import Derived.Test.YtapcgokcfmklbaaDoorCode
import Derived.Test.YtapcgokcfmklbaaDoorInts
namespace Go.Proofs.YtapcgokcfmklbaaDoor
open Go Go.Proofs Go.RowKit

theorem fo59_0 : fldOff Tryd.prog 59 0 = some (0, 3) := by kernel_rfl
theorem fo59_1 : fldOff Tryd.prog 59 1 = some (1, 3) := by kernel_rfl
theorem fo59_2 : fldOff Tryd.prog 59 2 = some (2, 3) := by kernel_rfl
theorem fo59_3 : fldOff Tryd.prog 59 3 = some (3, 3) := by kernel_rfl
theorem ok88 : callOK Tryd.prog 88 = true := by kernel_rfl
theorem ok91 : callOK Tryd.prog 91 = true := by kernel_rfl
theorem ok93 : callOK Tryd.prog 93 = true := by kernel_rfl
theorem ok138 : callOK Tryd.prog 138 = true := by kernel_rfl
theorem ok162 : callOK Tryd.prog 162 = true := by kernel_rfl

set_option maxRecDepth 100000 in
theorem second (rate : Int) (W : World) : Fn_ Tryd.prog 88 #[iv rate] W (fun v H => v = iv (sec rate) ∧ H = []) := by
  refine Fn_.intro Tryd.func88 rfl rfl (by rfl) ?_
  refine CS.seq ?_
  refine CS.region ?_
  refine RS.q rfl (QO.assign) ?_
  refine RS.nil ?_
  refine thenC_n ?_
  refine CS.seq ?_
  refine CS.seq ?_
  refine CS.region ?_
  refine RS.q rfl (QO.move) ?_
  refine RS.nil ?_
  refine thenC_n ?_
  refine CS.block ?_
  refine CS.seq ?_
  refine CS.seq ?_
  refine CS.region ?_
  refine RS.q rfl (QO.eql (by rfl) (by rfl)) ?_
  refine RS.q rfl (QO.assign) ?_
  refine RS.nil ?_
  refine thenC_n ?_
  refine CS.cond (by rfl) (fun hb0 => ?_) (fun hb0 => ?_)
  · have hb0p := eq_of_beq hb0
    refine CS.skip ?_
    refine thenC_n ?_
    refine CS.condT (by rfl) hb0 ?_
    refine CS.seq ?_
    refine CS.region ?_
    refine RS.q rfl (QO.move) ?_
    refine RS.q rfl (QO.assign) ?_
    refine RS.nil ?_
    refine thenC_n ?_
    refine CS.ret ?_
    refine blockC_r ?_
    refine thenC_r ?_
    refine retQ.mk (H' := []) (.inr rfl) (RVs.tmp (by rfl) RVs.nil) (List.nil_sublist _) ?_
    exact ⟨congrArg iv (by unfold sec; first | (rw [if_pos (by omega)]; done) | (rw [if_neg (by omega), if_pos (by omega)]; done) | (rw [if_neg (by omega), if_neg (by omega)]; done)), rfl⟩
  · have hb0p := ne_of_beq_false hb0
    refine CS.seq ?_
    refine CS.region ?_
    refine RS.q rfl (QO.eql (by rfl) (by rfl)) ?_
    refine RS.q rfl (QO.assign) ?_
    refine RS.nil ?_
    refine thenC_n ?_
    refine CS.cond (by rfl) (fun hb1 => ?_) (fun hb1 => ?_)
    · have hb1p := eq_of_beq hb1
      refine CS.skip ?_
      refine thenC_n ?_
      refine CS.condT (by rfl) hb1 ?_
      refine CS.seq ?_
      refine CS.region ?_
      refine RS.q rfl (QO.move) ?_
      refine RS.q rfl (QO.assign) ?_
      refine RS.nil ?_
      refine thenC_n ?_
      refine CS.ret ?_
      refine blockC_r ?_
      refine thenC_r ?_
      refine retQ.mk (H' := []) (.inr rfl) (RVs.tmp (by rfl) RVs.nil) (List.nil_sublist _) ?_
      exact ⟨congrArg iv (by unfold sec; first | (rw [if_pos (by omega)]; done) | (rw [if_neg (by omega), if_pos (by omega)]; done) | (rw [if_neg (by omega), if_neg (by omega)]; done)), rfl⟩
    · have hb1p := ne_of_beq_false hb1
      refine CS.seq ?_
      refine CS.region ?_
      refine RS.q rfl (QO.eql (by rfl) (by rfl)) ?_
      refine RS.q rfl (QO.assign) ?_
      refine RS.nil ?_
      refine thenC_n ?_
      refine CS.cond (by rfl) (fun hb2 => ?_) (fun hb2 => ?_)
      · have hb2p := eq_of_beq hb2
        refine CS.skip ?_
        refine thenC_n ?_
        refine CS.condT (by rfl) hb2 ?_
        refine CS.seq ?_
        refine CS.region ?_
        refine RS.q rfl (QO.move) ?_
        refine RS.q rfl (QO.assign) ?_
        refine RS.nil ?_
        refine thenC_n ?_
        refine CS.ret ?_
        refine blockC_r ?_
        refine thenC_r ?_
        refine retQ.mk (H' := []) (.inr rfl) (RVs.tmp (by rfl) RVs.nil) (List.nil_sublist _) ?_
        exact ⟨congrArg iv (by unfold sec; first | (rw [if_pos (by omega)]; done) | (rw [if_neg (by omega), if_pos (by omega)]; done) | (rw [if_neg (by omega), if_neg (by omega)]; done)), rfl⟩
      · have hb2p := ne_of_beq_false hb2
        refine CS.seq ?_
        refine CS.region ?_
        refine RS.q rfl (QO.eql (by rfl) (by rfl)) ?_
        refine RS.q rfl (QO.assign) ?_
        refine RS.nil ?_
        refine thenC_n ?_
        refine CS.cond (by rfl) (fun hb3 => ?_) (fun hb3 => ?_)
        · have hb3p := eq_of_beq hb3
          refine CS.skip ?_
          refine thenC_n ?_
          refine CS.condT (by rfl) hb3 ?_
          refine CS.seq ?_
          refine CS.region ?_
          refine RS.q rfl (QO.move) ?_
          refine RS.q rfl (QO.assign) ?_
          refine RS.nil ?_
          refine thenC_n ?_
          refine CS.ret ?_
          refine blockC_r ?_
          refine thenC_r ?_
          refine retQ.mk (H' := []) (.inr rfl) (RVs.tmp (by rfl) RVs.nil) (List.nil_sublist _) ?_
          exact ⟨congrArg iv (by unfold sec; first | (rw [if_pos (by omega)]; done) | (rw [if_neg (by omega), if_pos (by omega)]; done) | (rw [if_neg (by omega), if_neg (by omega)]; done)), rfl⟩
        · have hb3p := ne_of_beq_false hb3
          refine CS.seq ?_
          refine CS.region ?_
          refine RS.q rfl (QO.eql (by rfl) (by rfl)) ?_
          refine RS.q rfl (QO.assign) ?_
          refine RS.nil ?_
          refine thenC_n ?_
          refine CS.cond (by rfl) (fun hb4 => ?_) (fun hb4 => ?_)
          · have hb4p := eq_of_beq hb4
            refine CS.skip ?_
            refine thenC_n ?_
            refine CS.condT (by rfl) hb4 ?_
            refine CS.seq ?_
            refine CS.region ?_
            refine RS.q rfl (QO.move) ?_
            refine RS.q rfl (QO.assign) ?_
            refine RS.nil ?_
            refine thenC_n ?_
            refine CS.ret ?_
            refine blockC_r ?_
            refine thenC_r ?_
            refine retQ.mk (H' := []) (.inr rfl) (RVs.tmp (by rfl) RVs.nil) (List.nil_sublist _) ?_
            exact ⟨congrArg iv (by unfold sec; first | (rw [if_pos (by omega)]; done) | (rw [if_neg (by omega), if_pos (by omega)]; done) | (rw [if_neg (by omega), if_neg (by omega)]; done)), rfl⟩
          · have hb4p := ne_of_beq_false hb4
            refine CS.region ?_
            refine RS.q rfl (QO.eql (by rfl) (by rfl)) ?_
            refine RS.q rfl (QO.assign) ?_
            refine RS.nil ?_
            refine thenC_n ?_
            refine CS.cond (by rfl) (fun hb5 => ?_) (fun hb5 => ?_)
            · have hb5p := eq_of_beq hb5
              refine CS.seq ?_
              refine CS.region ?_
              refine RS.q rfl (QO.move) ?_
              refine RS.q rfl (QO.assign) ?_
              refine RS.nil ?_
              refine thenC_n ?_
              refine CS.ret ?_
              refine blockC_r ?_
              refine thenC_r ?_
              refine retQ.mk (H' := []) (.inr rfl) (RVs.tmp (by rfl) RVs.nil) (List.nil_sublist _) ?_
              exact ⟨congrArg iv (by unfold sec; first | (rw [if_pos (by omega)]; done) | (rw [if_neg (by omega), if_pos (by omega)]; done) | (rw [if_neg (by omega), if_neg (by omega)]; done)), rfl⟩
            · have hb5p := ne_of_beq_false hb5
              refine CS.seq ?_
              refine CS.region ?_
              refine RS.q rfl (QO.eql (by rfl) (by rfl)) ?_
              refine RS.q rfl (QO.assign) ?_
              refine RS.nil ?_
              refine thenC_n ?_
              refine CS.cond (by rfl) (fun hb6 => ?_) (fun hb6 => ?_)
              · have hb6p := eq_of_beq hb6
                refine CS.seq ?_
                refine CS.region ?_
                refine RS.q rfl (QO.assign) ?_
                refine RS.nil ?_
                refine thenC_n ?_
                refine CS.ret ?_
                refine blockC_r ?_
                refine thenC_r ?_
                refine retQ.mk (H' := []) (.inr rfl) (RVs.tmp (by rfl) RVs.nil) (List.nil_sublist _) ?_
                exact ⟨congrArg iv (by unfold sec; first | (rw [if_pos (by omega)]; done) | (rw [if_neg (by omega), if_pos (by omega)]; done) | (rw [if_neg (by omega), if_neg (by omega)]; done)), rfl⟩
              · have hb6p := ne_of_beq_false hb6
                refine CS.skip ?_
                refine blockC_n ?_
                refine thenC_n ?_
                refine CS.seq ?_
                refine CS.region ?_
                refine RS.q rfl (QO.assign) ?_
                refine RS.nil ?_
                refine thenC_n ?_
                refine CS.ret ?_
                refine retQ.mk (H' := []) (.inr rfl) (RVs.tmp (by rfl) RVs.nil) (List.nil_sublist _) ?_
                exact ⟨congrArg iv (by unfold sec; first | (rw [if_pos (by omega)]; done) | (rw [if_neg (by omega), if_pos (by omega)]; done) | (rw [if_neg (by omega), if_neg (by omega)]; done)), rfl⟩

theorem inB_F {a b c : Int} (h : inB a b c = false) : ¬ (b ≤ a ∧ a ≤ c) := by have := inB_false h; omega
theorem inB_T {a b c : Int} (h : inB a b c = true) : b ≤ a ∧ a ≤ c := inB_true h
theorem codE_3a {r h m s f : Int} (e : sec r ≠ 0) (e2 : inB h 0 23 = false ∨ inB m 0 59 = false ∨ inB s 0 59 = false ∨ inB f 0 (sec r - 1) = false) : codE r h m s f = 3 := by
  refine codE_3 e fun hh => ?_
  rcases e2 with e2 | e2 | e2 | e2
  all_goals
    have := inB_F e2
    omega

set_option maxHeartbeats 4000000 in
set_option maxRecDepth 100000 in
theorem codeError (rate h m s f : Int) (W : World) : Fn_ Tryd.prog 29 #[iv rate, .agg #[iv h, iv m, iv s, iv f]] W (fun v H => v = iv (codE rate h m s f) ∧ H = []) := by
  refine Fn_.intro Tryd.func29 rfl rfl (by rfl) ?_
  refine CS.seq ?_
  refine CS.region ?_
  refine RS.box rfl (by rfl) (by rfl) ?_
  intro g3
  refine RS.q rfl (QO.assign) ?_
  refine RS.nil ?_
  refine thenC_n ?_
  refine CS.seq ?_
  refine CS.region ?_
  refine RS.q rfl (QO.move) ?_
  refine RS.call rfl (by rfl) ok88 (by rfl) (fun w ho => second _ _) ?_
  rintro _ _ ⟨rfl, rfl⟩
  refine RS.q rfl (QO.assign) ?_
  refine RS.nil ?_
  refine thenC_n ?_
  refine CS.seq ?_
  refine CS.block ?_
  refine CS.seq ?_
  refine CS.region ?_
  refine RS.q rfl (QO.move) ?_
  refine RS.q rfl (QO.eql (by rfl) (by rfl)) ?_
  refine RS.q rfl (QO.assign) ?_
  refine RS.nil ?_
  refine thenC_n ?_
  refine CS.cond (by rfl) (fun hb0 => ?_) (fun hb0 => ?_)
  · have hb0p := eq_of_beq hb0
    refine CS.seq ?_
    refine CS.region ?_
    refine RS.q rfl (QO.assign) ?_
    refine RS.nil ?_
    refine thenC_n ?_
    refine CS.ret ?_
    refine blockC_r ?_
    refine thenC_r ?_
    refine retQ.mk (H' := []) (.inr rfl) (RVs.tmp (by rfl) RVs.nil) (List.nil_sublist _) ?_
    exact ⟨congrArg iv (by first | exact (codE_1 hb0p).symm | exact (codE_3a hne (by first | exact .inl (by assumption) | exact .inr (.inl (by assumption)) | exact .inr (.inr (.inl (by assumption))) | exact .inr (.inr (.inr (by assumption))))).symm | exact (codE_5 hne (by omega) (by refine ⟨?_, ?_, ?_, ?_⟩ <;> omega)).symm | exact (codE_0 hne (by omega) (by rintro ⟨a1, a2, a3, a4⟩; omega)).symm), rfl⟩
  · have hb0p := ne_of_beq_false hb0
    refine CS.seq ?_
    refine CS.region ?_
    have hne : sec rate ≠ 0 := hb0p
    have hsb := sec_bd rate
    refine RS.q rfl (QO.fieldAddr fo59_0 (by rfl)) ?_
    first | (refine RS.q rfl (QO.load ty3 (by rfl) (by repeat (first | exact List.Mem.head _ | refine List.Mem.tail _ ?_)) (by rfl)) ?_) | (refine RS.q rfl (QO.loadO ty3 (by rfl) (by assumption)) ?_) | (refine RS.q rfl (QO.load ty3 (by rfl) (by repeat (first | exact List.Mem.head _ | refine List.Mem.tail _ ?_)) (by assumption)) ?_)
    refine RS.call rfl (by rfl) ok89 (by rfl) (fun w ho => in_ _ _ _ _) ?_
    rintro _ _ ⟨rfl, rfl⟩
    refine RS.q rfl (QO.not (by rfl)) ?_
    refine RS.q rfl (QO.move) ?_
    refine RS.split (dj := 16) (by rfl) (fun hb1 => ?_) (fun hb1 => ?_)
    · have hb1p := Eq.mp (Bool.not_eq_true' _) hb1
      refine RS.off (dj := 16) rfl (.inl (congrArg Value.bool hb1)) (fun _ => rfl) rfl ?_
      refine RS.off (dj := 16) rfl (.inl (congrArg Value.bool hb1)) (fun _ => rfl) rfl ?_
      refine RS.off (dj := 16) rfl (.inl (congrArg Value.bool hb1)) (fun _ => rfl) rfl ?_
      refine RS.off (dj := 16) rfl (.inl (congrArg Value.bool hb1)) (fun _ => rfl) rfl ?_
      refine RS.q rfl (QO.pickT (by rfl) hb1 (by rfl)) ?_
      refine RS.q rfl (QO.move) ?_
      refine RS.off (dj := 22) rfl (.inl (congrArg Value.bool rfl)) (fun _ => rfl) rfl ?_
      refine RS.off (dj := 22) rfl (.inl (congrArg Value.bool rfl)) (fun _ => rfl) rfl ?_
      refine RS.off (dj := 22) rfl (.inl (congrArg Value.bool rfl)) (fun _ => rfl) rfl ?_
      refine RS.off (dj := 22) rfl (.inl (congrArg Value.bool rfl)) (fun _ => rfl) rfl ?_
      refine RS.q rfl (QO.pickT (by rfl) rfl (by rfl)) ?_
      refine RS.q rfl (QO.move) ?_
      refine RS.off (dj := 28) rfl (.inl (congrArg Value.bool rfl)) (fun _ => rfl) rfl ?_
      refine RS.off (dj := 28) rfl (.inl (congrArg Value.bool rfl)) (fun _ => rfl) rfl ?_
      refine RS.off (dj := 28) rfl (.inl (congrArg Value.bool rfl)) (fun _ => rfl) rfl ?_
      refine RS.off (dj := 28) rfl (.inl (congrArg Value.bool rfl)) (fun _ => rfl) rfl ?_
      refine RS.off (dj := 28) rfl (.inl (congrArg Value.bool rfl)) (fun _ => rfl) rfl ?_
      refine RS.off (dj := 28) rfl (.inl (congrArg Value.bool rfl)) (fun _ => rfl) rfl ?_
      refine RS.q rfl (QO.pickT (by rfl) rfl (by rfl)) ?_
      refine RS.q rfl (QO.assign) ?_
      refine RS.nil ?_
      refine thenC_n ?_
      refine CS.condT (by rfl) rfl ?_
      refine CS.seq ?_
      refine CS.region ?_
      refine RS.q rfl (QO.assign) ?_
      refine RS.nil ?_
      refine thenC_n ?_
      refine CS.ret ?_
      refine blockC_r ?_
      refine thenC_r ?_
      refine retQ.mk (H' := []) (.inr rfl) (RVs.tmp (by rfl) RVs.nil) (List.nil_sublist _) ?_
      exact ⟨congrArg iv (by first | exact (codE_1 hb0p).symm | exact (codE_3a hne (by first | exact .inl (by assumption) | exact .inr (.inl (by assumption)) | exact .inr (.inr (.inl (by assumption))) | exact .inr (.inr (.inr (by assumption))))).symm | exact (codE_5 hne (by omega) (by refine ⟨?_, ?_, ?_, ?_⟩ <;> omega)).symm | exact (codE_0 hne (by omega) (by rintro ⟨a1, a2, a3, a4⟩; omega)).symm), rfl⟩
    · have hb1p := Eq.mp (Bool.not_eq_false' _) hb1
      refine RS.on (dj := 16) rfl (congrArg Value.bool hb1) ?_
      refine RS.q rfl (QO.fieldAddr fo59_1 (by rfl)) ?_
      refine RS.on (dj := 16) rfl (congrArg Value.bool hb1) ?_
      first | (refine RS.q rfl (QO.load ty3 (by rfl) (by repeat (first | exact List.Mem.head _ | refine List.Mem.tail _ ?_)) (by rfl)) ?_) | (refine RS.q rfl (QO.loadO ty3 (by rfl) (by assumption)) ?_) | (refine RS.q rfl (QO.load ty3 (by rfl) (by repeat (first | exact List.Mem.head _ | refine List.Mem.tail _ ?_)) (by assumption)) ?_)
      refine RS.on (dj := 16) rfl (congrArg Value.bool hb1) ?_
      refine RS.call rfl (by rfl) ok89 (by rfl) (fun w ho => in_ _ _ _ _) ?_
      rintro _ _ ⟨rfl, rfl⟩
      refine RS.on (dj := 16) rfl (congrArg Value.bool hb1) ?_
      refine RS.q rfl (QO.not (by rfl)) ?_
      refine RS.q rfl (QO.pickF (by rfl) hb1 (by rfl)) ?_
      refine RS.q rfl (QO.move) ?_
      refine RS.split (dj := 22) (by rfl) (fun hb2 => ?_) (fun hb2 => ?_)
      · have hb2p := Eq.mp (Bool.not_eq_true' _) hb2
        refine RS.off (dj := 22) rfl (.inl (congrArg Value.bool hb2)) (fun _ => rfl) rfl ?_
        refine RS.off (dj := 22) rfl (.inl (congrArg Value.bool hb2)) (fun _ => rfl) rfl ?_
        refine RS.off (dj := 22) rfl (.inl (congrArg Value.bool hb2)) (fun _ => rfl) rfl ?_
        refine RS.off (dj := 22) rfl (.inl (congrArg Value.bool hb2)) (fun _ => rfl) rfl ?_
        refine RS.q rfl (QO.pickT (by rfl) hb2 (by rfl)) ?_
        refine RS.q rfl (QO.move) ?_
        refine RS.off (dj := 28) rfl (.inl (congrArg Value.bool rfl)) (fun _ => rfl) rfl ?_
        refine RS.off (dj := 28) rfl (.inl (congrArg Value.bool rfl)) (fun _ => rfl) rfl ?_
        refine RS.off (dj := 28) rfl (.inl (congrArg Value.bool rfl)) (fun _ => rfl) rfl ?_
        refine RS.off (dj := 28) rfl (.inl (congrArg Value.bool rfl)) (fun _ => rfl) rfl ?_
        refine RS.off (dj := 28) rfl (.inl (congrArg Value.bool rfl)) (fun _ => rfl) rfl ?_
        refine RS.off (dj := 28) rfl (.inl (congrArg Value.bool rfl)) (fun _ => rfl) rfl ?_
        refine RS.q rfl (QO.pickT (by rfl) rfl (by rfl)) ?_
        refine RS.q rfl (QO.assign) ?_
        refine RS.nil ?_
        refine thenC_n ?_
        refine CS.condT (by rfl) rfl ?_
        refine CS.seq ?_
        refine CS.region ?_
        refine RS.q rfl (QO.assign) ?_
        refine RS.nil ?_
        refine thenC_n ?_
        refine CS.ret ?_
        refine blockC_r ?_
        refine thenC_r ?_
        refine retQ.mk (H' := []) (.inr rfl) (RVs.tmp (by rfl) RVs.nil) (List.nil_sublist _) ?_
        exact ⟨congrArg iv (by first | exact (codE_1 hb0p).symm | exact (codE_3a hne (by first | exact .inl (by assumption) | exact .inr (.inl (by assumption)) | exact .inr (.inr (.inl (by assumption))) | exact .inr (.inr (.inr (by assumption))))).symm | exact (codE_5 hne (by omega) (by refine ⟨?_, ?_, ?_, ?_⟩ <;> omega)).symm | exact (codE_0 hne (by omega) (by rintro ⟨a1, a2, a3, a4⟩; omega)).symm), rfl⟩
      · have hb2p := Eq.mp (Bool.not_eq_false' _) hb2
        refine RS.on (dj := 22) rfl (congrArg Value.bool hb2) ?_
        refine RS.q rfl (QO.fieldAddr fo59_2 (by rfl)) ?_
        refine RS.on (dj := 22) rfl (congrArg Value.bool hb2) ?_
        first | (refine RS.q rfl (QO.load ty3 (by rfl) (by repeat (first | exact List.Mem.head _ | refine List.Mem.tail _ ?_)) (by rfl)) ?_) | (refine RS.q rfl (QO.loadO ty3 (by rfl) (by assumption)) ?_) | (refine RS.q rfl (QO.load ty3 (by rfl) (by repeat (first | exact List.Mem.head _ | refine List.Mem.tail _ ?_)) (by assumption)) ?_)
        refine RS.on (dj := 22) rfl (congrArg Value.bool hb2) ?_
        refine RS.call rfl (by rfl) ok89 (by rfl) (fun w ho => in_ _ _ _ _) ?_
        rintro _ _ ⟨rfl, rfl⟩
        refine RS.on (dj := 22) rfl (congrArg Value.bool hb2) ?_
        refine RS.q rfl (QO.not (by rfl)) ?_
        refine RS.q rfl (QO.pickF (by rfl) hb2 (by rfl)) ?_
        refine RS.q rfl (QO.move) ?_
        refine RS.split (dj := 28) (by rfl) (fun hb3 => ?_) (fun hb3 => ?_)
        · have hb3p := Eq.mp (Bool.not_eq_true' _) hb3
          refine RS.off (dj := 28) rfl (.inl (congrArg Value.bool hb3)) (fun _ => rfl) rfl ?_
          refine RS.off (dj := 28) rfl (.inl (congrArg Value.bool hb3)) (fun _ => rfl) rfl ?_
          refine RS.off (dj := 28) rfl (.inl (congrArg Value.bool hb3)) (fun _ => rfl) rfl ?_
          refine RS.off (dj := 28) rfl (.inl (congrArg Value.bool hb3)) (fun _ => rfl) rfl ?_
          refine RS.off (dj := 28) rfl (.inl (congrArg Value.bool hb3)) (fun _ => rfl) rfl ?_
          refine RS.off (dj := 28) rfl (.inl (congrArg Value.bool hb3)) (fun _ => rfl) rfl ?_
          refine RS.q rfl (QO.pickT (by rfl) hb3 (by rfl)) ?_
          refine RS.q rfl (QO.assign) ?_
          refine RS.nil ?_
          refine thenC_n ?_
          refine CS.condT (by rfl) rfl ?_
          refine CS.seq ?_
          refine CS.region ?_
          refine RS.q rfl (QO.assign) ?_
          refine RS.nil ?_
          refine thenC_n ?_
          refine CS.ret ?_
          refine blockC_r ?_
          refine thenC_r ?_
          refine retQ.mk (H' := []) (.inr rfl) (RVs.tmp (by rfl) RVs.nil) (List.nil_sublist _) ?_
          exact ⟨congrArg iv (by first | exact (codE_1 hb0p).symm | exact (codE_3a hne (by first | exact .inl (by assumption) | exact .inr (.inl (by assumption)) | exact .inr (.inr (.inl (by assumption))) | exact .inr (.inr (.inr (by assumption))))).symm | exact (codE_5 hne (by omega) (by refine ⟨?_, ?_, ?_, ?_⟩ <;> omega)).symm | exact (codE_0 hne (by omega) (by rintro ⟨a1, a2, a3, a4⟩; omega)).symm), rfl⟩
        · have hb3p := Eq.mp (Bool.not_eq_false' _) hb3
          refine RS.on (dj := 28) rfl (congrArg Value.bool hb3) ?_
          refine RS.q rfl (QO.fieldAddr fo59_3 (by rfl)) ?_
          refine RS.on (dj := 28) rfl (congrArg Value.bool hb3) ?_
          first | (refine RS.q rfl (QO.load ty3 (by rfl) (by repeat (first | exact List.Mem.head _ | refine List.Mem.tail _ ?_)) (by rfl)) ?_) | (refine RS.q rfl (QO.loadO ty3 (by rfl) (by assumption)) ?_) | (refine RS.q rfl (QO.load ty3 (by rfl) (by repeat (first | exact List.Mem.head _ | refine List.Mem.tail _ ?_)) (by assumption)) ?_)
          refine RS.on (dj := 28) rfl (congrArg Value.bool hb3) ?_
          refine RS.q rfl (QO.move) ?_
          refine RS.on (dj := 28) rfl (congrArg Value.bool hb3) ?_
          first | (refine RS.q rfl (QO.sub (by rfl) (by rfl) (by omega) (by omega)) ?_) | (refine RS.q rfl (QO.ibin (by rfl) (by rfl) trivial) ?_)
          refine RS.on (dj := 28) rfl (congrArg Value.bool hb3) ?_
          refine RS.call rfl (by rfl) ok89 (by rfl) (fun w ho => in_ _ _ _ _) ?_
          rintro _ _ ⟨rfl, rfl⟩
          refine RS.on (dj := 28) rfl (congrArg Value.bool hb3) ?_
          refine RS.q rfl (QO.not (by rfl)) ?_
          refine RS.q rfl (QO.pickF (by rfl) hb3 (by rfl)) ?_
          refine RS.q rfl (QO.assign) ?_
          refine RS.nil ?_
          refine thenC_n ?_
          refine CS.cond (by rfl) (fun hb4 => ?_) (fun hb4 => ?_)
          · have hb4p := Eq.mp (Bool.not_eq_true' _) hb4
            refine CS.seq ?_
            refine CS.region ?_
            refine RS.q rfl (QO.assign) ?_
            refine RS.nil ?_
            refine thenC_n ?_
            refine CS.ret ?_
            refine blockC_r ?_
            refine thenC_r ?_
            refine retQ.mk (H' := []) (.inr rfl) (RVs.tmp (by rfl) RVs.nil) (List.nil_sublist _) ?_
            exact ⟨congrArg iv (by first | exact (codE_1 hb0p).symm | exact (codE_3a hne (by first | exact .inl (by assumption) | exact .inr (.inl (by assumption)) | exact .inr (.inr (.inl (by assumption))) | exact .inr (.inr (.inr (by assumption))))).symm | exact (codE_5 hne (by omega) (by refine ⟨?_, ?_, ?_, ?_⟩ <;> omega)).symm | exact (codE_0 hne (by omega) (by rintro ⟨a1, a2, a3, a4⟩; omega)).symm), rfl⟩
          · have hb4p := Eq.mp (Bool.not_eq_false' _) hb4
            refine CS.seq ?_
            refine CS.region ?_
            have q1 : 0 ≤ h ∧ h ≤ 23 := inB_T (by assumption)
            have q2 : 0 ≤ m ∧ m ≤ 59 := inB_T (by assumption)
            have q3 : 0 ≤ s ∧ s ≤ 59 := inB_T (by assumption)
            have q4 : 0 ≤ f ∧ f ≤ sec rate - 1 := inB_T (by assumption)
            refine RS.q rfl (QO.move) ?_
            refine RS.q rfl (QO.eql (by rfl) (by rfl)) ?_
            refine RS.q rfl (QO.move) ?_
            refine RS.split (dj := 39) (by rfl) (fun hb5 => ?_) (fun hb5 => ?_)
            · have hb5p := eq_of_beq hb5
              refine RS.on (dj := 39) rfl (congrArg Value.bool hb5) ?_
              refine RS.q rfl (QO.fieldAddr fo59_1 (by rfl)) ?_
              refine RS.on (dj := 39) rfl (congrArg Value.bool hb5) ?_
              first | (refine RS.q rfl (QO.load ty3 (by rfl) (by repeat (first | exact List.Mem.head _ | refine List.Mem.tail _ ?_)) (by rfl)) ?_) | (refine RS.q rfl (QO.loadO ty3 (by rfl) (by assumption)) ?_) | (refine RS.q rfl (QO.load ty3 (by rfl) (by repeat (first | exact List.Mem.head _ | refine List.Mem.tail _ ?_)) (by assumption)) ?_)
              refine RS.on (dj := 39) rfl (congrArg Value.bool hb5) ?_
              refine RS.q rfl (QO.rem (by rfl) (by rfl) (by omega)) ?_
              refine RS.on (dj := 39) rfl (congrArg Value.bool hb5) ?_
              refine RS.q rfl (QO.neq (by rfl) (by rfl)) ?_
              refine RS.q rfl (QO.pickT (by rfl) hb5 (by rfl)) ?_
              refine RS.q rfl (QO.move) ?_
              refine RS.split (dj := 45) (by rfl) (fun hb6 => ?_) (fun hb6 => ?_)
              · have hb6p := bne_iff_ne.1 hb6
                refine RS.on (dj := 45) rfl (congrArg Value.bool hb6) ?_
                refine RS.q rfl (QO.fieldAddr fo59_2 (by rfl)) ?_
                refine RS.on (dj := 45) rfl (congrArg Value.bool hb6) ?_
                first | (refine RS.q rfl (QO.load ty3 (by rfl) (by repeat (first | exact List.Mem.head _ | refine List.Mem.tail _ ?_)) (by rfl)) ?_) | (refine RS.q rfl (QO.loadO ty3 (by rfl) (by assumption)) ?_) | (refine RS.q rfl (QO.load ty3 (by rfl) (by repeat (first | exact List.Mem.head _ | refine List.Mem.tail _ ?_)) (by assumption)) ?_)
                refine RS.on (dj := 45) rfl (congrArg Value.bool hb6) ?_
                refine RS.q rfl (QO.eql (by rfl) (by rfl)) ?_
                refine RS.q rfl (QO.pickT (by rfl) hb6 (by rfl)) ?_
                refine RS.q rfl (QO.move) ?_
                refine RS.split (dj := 50) (by rfl) (fun hb7 => ?_) (fun hb7 => ?_)
                · have hb7p := eq_of_beq hb7
                  refine RS.on (dj := 50) rfl (congrArg Value.bool hb7) ?_
                  refine RS.q rfl (QO.fieldAddr fo59_3 (by rfl)) ?_
                  refine RS.on (dj := 50) rfl (congrArg Value.bool hb7) ?_
                  first | (refine RS.q rfl (QO.load ty3 (by rfl) (by repeat (first | exact List.Mem.head _ | refine List.Mem.tail _ ?_)) (by rfl)) ?_) | (refine RS.q rfl (QO.loadO ty3 (by rfl) (by assumption)) ?_) | (refine RS.q rfl (QO.load ty3 (by rfl) (by repeat (first | exact List.Mem.head _ | refine List.Mem.tail _ ?_)) (by assumption)) ?_)
                  refine RS.on (dj := 50) rfl (congrArg Value.bool hb7) ?_
                  refine RS.q rfl (QO.lss (by rfl) (by rfl)) ?_
                  refine RS.q rfl (QO.pickT (by rfl) hb7 (by rfl)) ?_
                  refine RS.q rfl (QO.assign) ?_
                  refine RS.nil ?_
                  refine thenC_n ?_
                  refine CS.cond (by rfl) (fun hb8 => ?_) (fun hb8 => ?_)
                  · have hb8p := of_decide_eq_true hb8
                    refine CS.seq ?_
                    refine CS.region ?_
                    refine RS.q rfl (QO.assign) ?_
                    refine RS.nil ?_
                    refine thenC_n ?_
                    refine CS.ret ?_
                    refine blockC_r ?_
                    refine thenC_r ?_
                    refine retQ.mk (H' := []) (.inr rfl) (RVs.tmp (by rfl) RVs.nil) (List.nil_sublist _) ?_
                    exact ⟨congrArg iv (by first | exact (codE_1 hb0p).symm | exact (codE_3a hne (by first | exact .inl (by assumption) | exact .inr (.inl (by assumption)) | exact .inr (.inr (.inl (by assumption))) | exact .inr (.inr (.inr (by assumption))))).symm | exact (codE_5 hne (by omega) (by refine ⟨?_, ?_, ?_, ?_⟩ <;> omega)).symm | exact (codE_0 hne (by omega) (by rintro ⟨a1, a2, a3, a4⟩; omega)).symm), rfl⟩
                  · have hb8p := of_decide_eq_false hb8
                    refine CS.skip ?_
                    refine blockC_n ?_
                    refine thenC_n ?_
                    refine CS.seq ?_
                    refine CS.region ?_
                    refine RS.q rfl (QO.assign) ?_
                    refine RS.nil ?_
                    refine thenC_n ?_
                    refine CS.ret ?_
                    refine retQ.mk (H' := []) (.inr rfl) (RVs.tmp (by rfl) RVs.nil) (List.nil_sublist _) ?_
                    exact ⟨congrArg iv (by first | exact (codE_1 hb0p).symm | exact (codE_3a hne (by first | exact .inl (by assumption) | exact .inr (.inl (by assumption)) | exact .inr (.inr (.inl (by assumption))) | exact .inr (.inr (.inr (by assumption))))).symm | exact (codE_5 hne (by omega) (by refine ⟨?_, ?_, ?_, ?_⟩ <;> omega)).symm | exact (codE_0 hne (by omega) (by rintro ⟨a1, a2, a3, a4⟩; omega)).symm), rfl⟩
                · have hb7p := ne_of_beq_false hb7
                  refine RS.off (dj := 50) rfl (.inl (congrArg Value.bool hb7)) (fun _ => rfl) rfl ?_
                  refine RS.off (dj := 50) rfl (.inl (congrArg Value.bool hb7)) (fun _ => rfl) rfl ?_
                  refine RS.off (dj := 50) rfl (.inl (congrArg Value.bool hb7)) (fun _ => rfl) rfl ?_
                  refine RS.q rfl (QO.pickF (by rfl) hb7 (by rfl)) ?_
                  refine RS.q rfl (QO.assign) ?_
                  refine RS.nil ?_
                  refine thenC_n ?_
                  refine CS.condF (by rfl) rfl ?_
                  refine CS.skip ?_
                  refine blockC_n ?_
                  refine thenC_n ?_
                  refine CS.seq ?_
                  refine CS.region ?_
                  refine RS.q rfl (QO.assign) ?_
                  refine RS.nil ?_
                  refine thenC_n ?_
                  refine CS.ret ?_
                  refine retQ.mk (H' := []) (.inr rfl) (RVs.tmp (by rfl) RVs.nil) (List.nil_sublist _) ?_
                  exact ⟨congrArg iv (by first | exact (codE_1 hb0p).symm | exact (codE_3a hne (by first | exact .inl (by assumption) | exact .inr (.inl (by assumption)) | exact .inr (.inr (.inl (by assumption))) | exact .inr (.inr (.inr (by assumption))))).symm | exact (codE_5 hne (by omega) (by refine ⟨?_, ?_, ?_, ?_⟩ <;> omega)).symm | exact (codE_0 hne (by omega) (by rintro ⟨a1, a2, a3, a4⟩; omega)).symm), rfl⟩
              · have hb6p := of_bne_false hb6
                refine RS.off (dj := 45) rfl (.inl (congrArg Value.bool hb6)) (fun _ => rfl) rfl ?_
                refine RS.off (dj := 45) rfl (.inl (congrArg Value.bool hb6)) (fun _ => rfl) rfl ?_
                refine RS.off (dj := 45) rfl (.inl (congrArg Value.bool hb6)) (fun _ => rfl) rfl ?_
                refine RS.q rfl (QO.pickF (by rfl) hb6 (by rfl)) ?_
                refine RS.q rfl (QO.move) ?_
                refine RS.off (dj := 50) rfl (.inl (congrArg Value.bool rfl)) (fun _ => rfl) rfl ?_
                refine RS.off (dj := 50) rfl (.inl (congrArg Value.bool rfl)) (fun _ => rfl) rfl ?_
                refine RS.off (dj := 50) rfl (.inl (congrArg Value.bool rfl)) (fun _ => rfl) rfl ?_
                refine RS.q rfl (QO.pickF (by rfl) rfl (by rfl)) ?_
                refine RS.q rfl (QO.assign) ?_
                refine RS.nil ?_
                refine thenC_n ?_
                refine CS.condF (by rfl) rfl ?_
                refine CS.skip ?_
                refine blockC_n ?_
                refine thenC_n ?_
                refine CS.seq ?_
                refine CS.region ?_
                refine RS.q rfl (QO.assign) ?_
                refine RS.nil ?_
                refine thenC_n ?_
                refine CS.ret ?_
                refine retQ.mk (H' := []) (.inr rfl) (RVs.tmp (by rfl) RVs.nil) (List.nil_sublist _) ?_
                exact ⟨congrArg iv (by first | exact (codE_1 hb0p).symm | exact (codE_3a hne (by first | exact .inl (by assumption) | exact .inr (.inl (by assumption)) | exact .inr (.inr (.inl (by assumption))) | exact .inr (.inr (.inr (by assumption))))).symm | exact (codE_5 hne (by omega) (by refine ⟨?_, ?_, ?_, ?_⟩ <;> omega)).symm | exact (codE_0 hne (by omega) (by rintro ⟨a1, a2, a3, a4⟩; omega)).symm), rfl⟩
            · have hb5p := ne_of_beq_false hb5
              refine RS.off (dj := 39) rfl (.inl (congrArg Value.bool hb5)) (fun _ => rfl) rfl ?_
              refine RS.off (dj := 39) rfl (.inl (congrArg Value.bool hb5)) (fun _ => rfl) rfl ?_
              refine RS.off (dj := 39) rfl (.inl (congrArg Value.bool hb5)) (fun _ => rfl) rfl ?_
              refine RS.off (dj := 39) rfl (.inl (congrArg Value.bool hb5)) (fun _ => rfl) rfl ?_
              refine RS.q rfl (QO.pickF (by rfl) hb5 (by rfl)) ?_
              refine RS.q rfl (QO.move) ?_
              refine RS.off (dj := 45) rfl (.inl (congrArg Value.bool rfl)) (fun _ => rfl) rfl ?_
              refine RS.off (dj := 45) rfl (.inl (congrArg Value.bool rfl)) (fun _ => rfl) rfl ?_
              refine RS.off (dj := 45) rfl (.inl (congrArg Value.bool rfl)) (fun _ => rfl) rfl ?_
              refine RS.q rfl (QO.pickF (by rfl) rfl (by rfl)) ?_
              refine RS.q rfl (QO.move) ?_
              refine RS.off (dj := 50) rfl (.inl (congrArg Value.bool rfl)) (fun _ => rfl) rfl ?_
              refine RS.off (dj := 50) rfl (.inl (congrArg Value.bool rfl)) (fun _ => rfl) rfl ?_
              refine RS.off (dj := 50) rfl (.inl (congrArg Value.bool rfl)) (fun _ => rfl) rfl ?_
              refine RS.q rfl (QO.pickF (by rfl) rfl (by rfl)) ?_
              refine RS.q rfl (QO.assign) ?_
              refine RS.nil ?_
              refine thenC_n ?_
              refine CS.condF (by rfl) rfl ?_
              refine CS.skip ?_
              refine blockC_n ?_
              refine thenC_n ?_
              refine CS.seq ?_
              refine CS.region ?_
              refine RS.q rfl (QO.assign) ?_
              refine RS.nil ?_
              refine thenC_n ?_
              refine CS.ret ?_
              refine retQ.mk (H' := []) (.inr rfl) (RVs.tmp (by rfl) RVs.nil) (List.nil_sublist _) ?_
              exact ⟨congrArg iv (by first | exact (codE_1 hb0p).symm | exact (codE_3a hne (by first | exact .inl (by assumption) | exact .inr (.inl (by assumption)) | exact .inr (.inr (.inl (by assumption))) | exact .inr (.inr (.inr (by assumption))))).symm | exact (codE_5 hne (by omega) (by refine ⟨?_, ?_, ?_, ?_⟩ <;> omega)).symm | exact (codE_0 hne (by omega) (by rintro ⟨a1, a2, a3, a4⟩; omega)).symm), rfl⟩

theorem cont_T {xs : List Int} {x : Int} {i : Nat} (hi : i < xs.length) (h : x = xs[i]) : xs.contains x = true := by
  rw [List.contains_iff_mem, h]; exact List.getElem_mem _
theorem cont_F {xs : List Int} {x : Int} (h : ∀ i (hi : i < xs.length), x ≠ xs[i]) : xs.contains x = false := by
  rw [Bool.eq_false_iff]
  intro hc
  rw [List.contains_iff_mem, List.mem_iff_getElem] at hc
  obtain ⟨i, hi, e⟩ := hc
  exact h i hi e.symm

set_option maxRecDepth 100000 in
theorem index_ (g : Nat) (xs : List Int) (n c : Nat) (x : Int) (W : World) (hn : xs.length = n) (hm : n ≤ maxLen) (hcell : ∀ i y, xs[i]? = some y → W.cell? ⟨g, i, none⟩ = some (iv y)) : Fn_ Tryd.prog 162 #[.slice (some ⟨g, 0, none⟩) n c, iv x] W (fun v H => ∃ k : Int, v = iv k ∧ decide (0 ≤ k) = xs.contains x ∧ H = []) := by
  subst hn
  unfold maxLen at hm
  refine Fn_.intro Tryd.func162 rfl rfl (by rfl) ?_
  refine CS.seq ?_
  refine CS.region ?_
  refine RS.q rfl (QO.assign) ?_
  refine RS.nil ?_
  refine thenC_n ?_
  refine CS.seq ?_
  refine CS.seq ?_
  refine CS.region ?_
  refine RS.q rfl (QO.move) ?_
  refine RS.q rfl (QO.lenS Tryd.underlying22 (by rfl)) ?_
  refine RS.q rfl (QO.move) ?_
  refine RS.nil ?_
  refine thenC_n ?_
  refine CS.block ?_
  refine CS.loop (X := Nat) (4 :: 5 :: 8 :: 9 :: 10 :: 11 :: 12 :: 13 :: 14 :: 15 :: 16 :: 17 :: 18 :: []) (fun k => [(8, iv (k : Int))]) (fun k => []) (fun k => k ≤ xs.length ∧ ∀ i (hi : i < xs.length), i < k → x ≠ xs[i]) (fun k => xs.length - k) 0 ⟨Nat.zero_le _, fun i _ h => absurd h (Nat.not_lt_zero _)⟩ ?_ ?_ ?_
  · exact (by repeat (first | exact kn_nil | refine kn_cons (by rfl) ?_))
  · exact (by repeat (first | exact List.Sublist.refl _ | exact List.nil_sublist _ | refine List.Sublist.cons_cons _ ?_ | refine List.Sublist.cons _ ?_ | exact Sbp.refl | exact Sbp.nil | refine Sbp.cons (by repeat (first | exact Rem.head | apply Rem.tail)) ?_ | exact Sbp.app | refine Sbp.skip ?_))
  · intro k gj2 hz
    obtain ⟨hk, hz⟩ := hz
    refine CS.seq ?_
    refine CS.region ?_
    refine RS.q rfl (QO.lss (by rfl) (by rfl)) ?_
    refine RS.nil ?_
    refine thenC_n ?_
    refine CS.seq ?_
    refine CS.cond (by rfl) (fun hb0 => ?_) (fun hb0 => ?_)
    · have hb0p := of_decide_eq_true hb0
      refine CS.skip ?_
      refine thenC_n ?_
      refine CS.seq ?_
      refine CS.block ?_
      refine CS.seq ?_
      refine CS.region ?_
      refine RS.q rfl (QO.move) ?_
      refine RS.q rfl (QO.assign) ?_
      refine RS.nil ?_
      refine thenC_n ?_
      refine CS.seq ?_
      refine CS.region ?_
      refine RS.q rfl (QO.move) ?_
      refine RS.q rfl (QO.move) ?_
      refine RS.q rfl (QO.move) ?_
      first | (refine RS.q rfl (QO.idx0 Tryd.underlying22 ty3 (by rfl) (by rfl) (by rfl) (by omega)) ?_) | (refine RS.q rfl (QO.idxn Tryd.underlying22 ty3 (by rfl) (by rfl) (by rfl) (by omega)) ?_) | (refine RS.q rfl (QO.idx1 Tryd.underlying22 ty3 (by rfl) (by rfl) (by omega) (by omega)) ?_)
      refine RS.q rfl (QO.loadO ty3 (by rfl) (hcell k _ (List.getElem?_eq_getElem (show k < xs.length by omega)))) ?_
      refine RS.q rfl (QO.eql (by rfl) (by rfl)) ?_
      refine RS.nil ?_
      refine thenC_n ?_
      refine CS.cond (by rfl) (fun hb1 => ?_) (fun hb1 => ?_)
      · have hb1p := eq_of_beq hb1
        refine CS.seq ?_
        refine CS.region ?_
        refine RS.q rfl (QO.move) ?_
        refine RS.q rfl (QO.assign) ?_
        refine RS.nil ?_
        refine thenC_n ?_
        refine CS.ret ?_
        refine blockC_r ?_
        refine thenC_r ?_
        refine loopQ_r ?_
        refine blockC_r ?_
        refine thenC_r ?_
        refine retQ.mk (H' := []) (.inr rfl) (RVs.tmp (by rfl) RVs.nil) (List.nil_sublist _) ?_
        exact ⟨(k : Int), rfl, by rw [cont_T (show k < xs.length by omega) hb1p]; exact decide_eq_true (by omega), rfl⟩
      · have hb1p := ne_of_beq_false hb1
        refine CS.skip ?_
        refine blockC_n ?_
        refine thenC_n ?_
        refine CS.region ?_
        first | (refine RS.q rfl (QO.add (by rfl) (by rfl) (by omega) (by omega)) ?_) | (refine RS.q rfl (QO.ibin (by rfl) (by rfl) trivial) ?_)
        refine RS.q rfl (QO.move) ?_
        refine RS.nil ?_
        refine loopQ_n (by intro t ht; repeat (first | with_reducible exact rfl | exact frame_puts ht (frame_mix ht) _ rfl | (refine frame_put rfl ht ?_) | (refine frame_puts ht ?_ _ rfl) | exact frame_mix ht | (refine frame_mix2 rfl ht ?_) | exact rfl)) ?_
        exact ⟨k + 1, ⟨by omega, fun i hi h => by
            by_cases e : i = k
            · subst e; exact hb1p
            · exact hz i hi (by omega)⟩, by omega, (by repeat (first | exact kn_nil | refine kn_cons (by rfl) ?_)), (by repeat (first | exact List.Sublist.refl _ | exact List.nil_sublist _ | refine List.Sublist.cons_cons _ ?_ | refine List.Sublist.cons _ ?_ | exact Sbp.refl | exact Sbp.nil | refine Sbp.cons (by repeat (first | exact Rem.head | apply Rem.tail)) ?_ | exact Sbp.app | refine Sbp.skip ?_))⟩
    · have hb0p := of_decide_eq_false hb0
      refine CS.exit ?_
      refine thenC_x ?_
      refine loopQ_x ?_
      refine blockC_x ?_
      refine thenC_n ?_
      refine CS.seq ?_
      refine CS.region ?_
      refine RS.q rfl (QO.assign) ?_
      refine RS.nil ?_
      refine thenC_n ?_
      refine CS.ret ?_
      refine retQ.mk (H' := []) (.inr rfl) (RVs.tmp (by rfl) RVs.nil) (List.nil_sublist _) ?_
      exact ⟨-1, rfl, by rw [cont_F (fun i hi => hz i hi (by omega))]; rfl, rfl⟩

set_option maxRecDepth 100000 in
theorem contains_ (g : Nat) (xs : List Int) (n c : Nat) (x : Int) (W : World) (hn : xs.length = n) (hm : n ≤ maxLen) (hcell : ∀ i y, xs[i]? = some y → W.cell? ⟨g, i, none⟩ = some (iv y)) : Fn_ Tryd.prog 138 #[.slice (some ⟨g, 0, none⟩) n c, iv x] W (fun v H => v = .bool (xs.contains x) ∧ H = []) := by
  refine Fn_.intro Tryd.func138 rfl rfl (by rfl) ?_
  refine CS.seq ?_
  refine CS.region ?_
  refine RS.q rfl (QO.assign) ?_
  refine RS.nil ?_
  refine thenC_n ?_
  refine CS.seq ?_
  refine CS.region ?_
  refine RS.q rfl (QO.move) ?_
  refine RS.q rfl (QO.move) ?_
  refine RS.call rfl (by rfl) ok162 (by rfl) (fun w ho => index_ g xs n c x _ hn hm (fun i y h => ho.old (hcell i y h))) ?_
  rintro _ _ ⟨kx, rfl, hkx, rfl⟩
  refine RS.qv rfl (QO.geq (by rfl) (by rfl)) (congrArg Value.bool hkx) ?_
  refine RS.q rfl (QO.assign) ?_
  refine RS.nil ?_
  refine thenC_n ?_
  refine CS.ret ?_
  refine retQ.mk (H' := []) (.inr rfl) (RVs.tmp (by rfl) RVs.nil) (List.nil_sublist _) ?_
  exact ⟨rfl, rfl⟩

theorem rate_in (r : Int) : [24, 25, 30, 48, 50, 60, 29].contains r = decide (sec r ≠ 0) := by
  rw [Bool.eq_iff_iff, List.contains_iff_mem, decide_eq_true_eq]
  constructor
  · intro h
    simp only [List.mem_cons, List.not_mem_nil, or_false] at h
    unfold sec
    split
    · omega
    · split <;> omega
  · intro h
    have := sec_cases h
    simp only [List.mem_cons, List.not_mem_nil, or_false]
    omega

set_option maxRecDepth 100000 in
theorem isRate (rate : Int) (W : World) : Fn_ Tryd.prog 93 #[iv rate] W (fun v H => v = .bool (decide (sec rate ≠ 0)) ∧ H = []) := by
  refine Fn_.intro Tryd.func93 rfl rfl (by rfl) ?_
  refine CS.seq ?_
  refine CS.region ?_
  refine RS.q rfl (QO.assign) ?_
  refine RS.nil ?_
  refine thenC_n ?_
  refine CS.seq ?_
  refine CS.region ?_
  refine RS.buildSlice rfl Tryd.underlying22 ty3 (by decide) (by decide) (by rfl) (by rfl) ?_
  intro g3
  refine RS.q rfl (QO.move) ?_
  refine RS.call rfl (by rfl) ok138 (by rfl) (fun w ho => contains_ g3 [24, 25, 30, 48, 50, 60, 29] 7 7 rate _ rfl (by decide) (fun i y hy => by rw [(ho.blk _ (List.Mem.head _)).2.cell]; show ([24, 25, 30, 48, 50, 60, 29].map iv)[i]? = some (iv y); rw [List.getElem?_map, hy]; rfl)) ?_
  rintro _ _ ⟨rfl, rfl⟩
  refine RS.q rfl (QO.assign) ?_
  refine RS.nil ?_
  refine thenC_n ?_
  refine CS.ret ?_
  refine retQ.mk (H' := []) (.inr rfl) (RVs.tmp (by rfl) RVs.nil) (List.nil_sublist _) ?_
  exact ⟨congrArg Value.bool (rate_in rate), rfl⟩

set_option maxRecDepth 100000 in
theorem counted (rate : Int) (W : World) (hr : sec rate ≠ 0) : Fn_ Tryd.prog 91 #[iv rate] W (fun v H => v = iv (sec rate) ∧ H = []) := by
  refine Fn_.intro Tryd.func91 rfl rfl (by rfl) ?_
  refine CS.seq ?_
  refine CS.region ?_
  refine RS.q rfl (QO.assign) ?_
  refine RS.nil ?_
  refine thenC_n ?_
  refine CS.seq ?_
  refine CS.seq ?_
  refine CS.region ?_
  refine RS.q rfl (QO.move) ?_
  refine RS.q rfl (QO.eql (by rfl) (by rfl)) ?_
  refine RS.nil ?_
  refine thenC_n ?_
  refine CS.cond (by rfl) (fun hb0 => ?_) (fun hb0 => ?_)
  · have hb0p := eq_of_beq hb0
    refine CS.seq ?_
    refine CS.region ?_
    refine RS.q rfl (QO.assign) ?_
    refine RS.nil ?_
    refine thenC_n ?_
    refine CS.ret ?_
    refine thenC_r ?_
    refine retQ.mk (H' := []) (.inr rfl) (RVs.tmp (by rfl) RVs.nil) (List.nil_sublist _) ?_
    exact ⟨congrArg iv (by unfold sec; rw [if_neg (by omega), if_pos (by omega)]), rfl⟩
  · have hb0p := ne_of_beq_false hb0
    refine CS.skip ?_
    refine thenC_n ?_
    refine CS.seq ?_
    refine CS.region ?_
    refine RS.q rfl (QO.move) ?_
    refine RS.q rfl (QO.assign) ?_
    refine RS.nil ?_
    refine thenC_n ?_
    refine CS.ret ?_
    refine retQ.mk (H' := []) (.inr rfl) (RVs.tmp (by rfl) RVs.nil) (List.nil_sublist _) ?_
    exact ⟨congrArg iv (by have hc := sec_cases hr; unfold sec; rw [if_pos (by omega)]), rfl⟩

set_option maxHeartbeats 4000000 in
set_option maxRecDepth 100000 in
theorem checkCode (rate h m s f : Int) (W : World) : Fn_ Tryd.prog 90 #[iv rate, .agg #[iv h, iv m, iv s, iv f]] W (fun v H => v = iv (codE rate h m s f) ∧ H = []) := by
  refine Fn_.intro Tryd.func90 rfl rfl (by rfl) ?_
  refine CS.seq ?_
  refine CS.region ?_
  refine RS.box rfl (by rfl) (by rfl) ?_
  intro g3
  refine RS.q rfl (QO.assign) ?_
  refine RS.nil ?_
  refine thenC_n ?_
  refine CS.seq ?_
  refine CS.block ?_
  refine CS.seq ?_
  refine CS.region ?_
  refine RS.q rfl (QO.move) ?_
  refine RS.call rfl (by rfl) ok93 (by rfl) (fun w ho => isRate _ _) ?_
  rintro _ _ ⟨rfl, rfl⟩
  refine RS.q rfl (QO.not (by rfl)) ?_
  refine RS.q rfl (QO.assign) ?_
  refine RS.nil ?_
  refine thenC_n ?_
  refine CS.cond (by rfl) (fun hb0 => ?_) (fun hb0 => ?_)
  · have hb0p := Eq.mp (Bool.not_eq_true' _) hb0
    refine CS.seq ?_
    refine CS.region ?_
    refine RS.q rfl (QO.assign) ?_
    refine RS.nil ?_
    refine thenC_n ?_
    refine CS.ret ?_
    refine blockC_r ?_
    refine thenC_r ?_
    refine retQ.mk (H' := []) (.inr rfl) (RVs.tmp (by rfl) RVs.nil) (List.nil_sublist _) ?_
    exact ⟨congrArg iv (by first | exact (codE_1 (Decidable.not_not.1 (of_decide_eq_false hb0p))).symm | exact (codE_3 hne (by omega)).symm | exact (codE_5 hne (by omega) (by refine ⟨?_, ?_, ?_, ?_⟩ <;> omega)).symm | exact (codE_0 hne (by omega) (by rintro ⟨a1, a2, a3, a4⟩; omega)).symm), rfl⟩
  · have hb0p := Eq.mp (Bool.not_eq_false' _) hb0
    refine CS.seq ?_
    refine CS.draw 41 rfl (by kernel_rfl) (by kernel_rfl) ?_
    have hne : sec rate ≠ 0 := of_decide_eq_true hb0p
    have hsb := sec_bd rate
    refine RT.take (i := 0) rfl (by kernel_rfl) rfl (QO.fieldAddr fo59_0 (by rfl)) ?_
    first | (refine RT.take (i := 1) rfl (by kernel_rfl) rfl (QO.load ty3 (by rfl) (by repeat (first | exact List.Mem.head _ | refine List.Mem.tail _ ?_)) (by rfl)) ?_) | (refine RT.take (i := 1) rfl (by kernel_rfl) rfl (QO.loadO ty3 (by rfl) (by assumption)) ?_) | (refine RT.take (i := 1) rfl (by kernel_rfl) rfl (QO.load ty3 (by rfl) (by repeat (first | exact List.Mem.head _ | refine List.Mem.tail _ ?_)) (by assumption)) ?_)
    refine RT.take (i := 2) rfl (by kernel_rfl) rfl (QO.lss (by rfl) (by rfl)) ?_
    refine RT.take (i := 3) rfl (by kernel_rfl) rfl (QO.move) ?_
    refine RT.split (dj := 13) (by rfl) (fun hb1 => ?_) (fun hb1 => ?_)
    · have hb1p := of_decide_eq_true hb1
      refine RT.takeOff (i := 4) (dj := 13) rfl rfl (.inl (congrArg Value.bool hb1)) (fun _ => rfl) (by kernel_rfl) rfl ?_
      refine RT.takeOff (i := 5) (dj := 13) rfl rfl (.inl (congrArg Value.bool hb1)) (fun _ => rfl) (by kernel_rfl) rfl ?_
      refine RT.takeOff (i := 6) (dj := 13) rfl rfl (.inl (congrArg Value.bool hb1)) (fun _ => rfl) (by kernel_rfl) rfl ?_
      refine RT.take (i := 7) rfl (by kernel_rfl) rfl (QO.pickT (by rfl) hb1 (by rfl)) ?_
      refine RT.take (i := 8) rfl (by kernel_rfl) rfl (QO.move) ?_
      refine RT.takeOff (i := 9) (dj := 18) rfl rfl (.inl (congrArg Value.bool rfl)) (fun _ => rfl) (by kernel_rfl) rfl ?_
      refine RT.takeOff (i := 10) (dj := 18) rfl rfl (.inl (congrArg Value.bool rfl)) (fun _ => rfl) (by kernel_rfl) rfl ?_
      refine RT.takeOff (i := 11) (dj := 18) rfl rfl (.inl (congrArg Value.bool rfl)) (fun _ => rfl) (by kernel_rfl) rfl ?_
      refine RT.take (i := 12) rfl (by kernel_rfl) rfl (QO.pickT (by rfl) rfl (by rfl)) ?_
      refine RT.take (i := 13) rfl (by kernel_rfl) rfl (QO.move) ?_
      refine RT.takeOff (i := 14) (dj := 23) rfl rfl (.inl (congrArg Value.bool rfl)) (fun _ => rfl) (by kernel_rfl) rfl ?_
      refine RT.takeOff (i := 15) (dj := 23) rfl rfl (.inl (congrArg Value.bool rfl)) (fun _ => rfl) (by kernel_rfl) rfl ?_
      refine RT.takeOff (i := 16) (dj := 23) rfl rfl (.inl (congrArg Value.bool rfl)) (fun _ => rfl) (by kernel_rfl) rfl ?_
      refine RT.take (i := 17) rfl (by kernel_rfl) rfl (QO.pickT (by rfl) rfl (by rfl)) ?_
      refine RT.take (i := 18) rfl (by kernel_rfl) rfl (QO.move) ?_
      refine RT.takeOff (i := 19) (dj := 28) rfl rfl (.inl (congrArg Value.bool rfl)) (fun _ => rfl) (by kernel_rfl) rfl ?_
      refine RT.takeOff (i := 20) (dj := 28) rfl rfl (.inl (congrArg Value.bool rfl)) (fun _ => rfl) (by kernel_rfl) rfl ?_
      refine RT.takeOff (i := 21) (dj := 28) rfl rfl (.inl (congrArg Value.bool rfl)) (fun _ => rfl) (by kernel_rfl) rfl ?_
      refine RT.take (i := 22) rfl (by kernel_rfl) rfl (QO.pickT (by rfl) rfl (by rfl)) ?_
      refine RT.take (i := 23) rfl (by kernel_rfl) rfl (QO.move) ?_
      refine RT.takeOff (i := 24) (dj := 33) rfl rfl (.inl (congrArg Value.bool rfl)) (fun _ => rfl) (by kernel_rfl) rfl ?_
      refine RT.takeOff (i := 25) (dj := 33) rfl rfl (.inl (congrArg Value.bool rfl)) (fun _ => rfl) (by kernel_rfl) rfl ?_
      refine RT.takeOff (i := 26) (dj := 33) rfl rfl (.inl (congrArg Value.bool rfl)) (fun _ => rfl) (by kernel_rfl) rfl ?_
      refine RT.take (i := 27) rfl (by kernel_rfl) rfl (QO.pickT (by rfl) rfl (by rfl)) ?_
      refine RT.take (i := 28) rfl (by kernel_rfl) rfl (QO.move) ?_
      refine RT.takeOff (i := 29) (dj := 38) rfl rfl (.inl (congrArg Value.bool rfl)) (fun _ => rfl) (by kernel_rfl) rfl ?_
      refine RT.takeOff (i := 30) (dj := 38) rfl rfl (.inl (congrArg Value.bool rfl)) (fun _ => rfl) (by kernel_rfl) rfl ?_
      refine RT.takeOff (i := 31) (dj := 38) rfl rfl (.inl (congrArg Value.bool rfl)) (fun _ => rfl) (by kernel_rfl) rfl ?_
      refine RT.take (i := 32) rfl (by kernel_rfl) rfl (QO.pickT (by rfl) rfl (by rfl)) ?_
      refine RT.take (i := 33) rfl (by kernel_rfl) rfl (QO.move) ?_
      refine RT.takeOff (i := 34) (dj := 43) rfl rfl (.inl (congrArg Value.bool rfl)) (fun _ => rfl) (by kernel_rfl) rfl ?_
      refine RT.takeOff (i := 35) (dj := 43) rfl rfl (.inl (congrArg Value.bool rfl)) (fun _ => rfl) (by kernel_rfl) rfl ?_
      refine RT.takeOff (i := 36) (dj := 43) rfl rfl (.inl (congrArg Value.bool rfl)) (fun _ => rfl) (by kernel_rfl) rfl ?_
      refine RT.one (i := 37) (by kernel_rfl) rfl rfl ?_
      refine RS.off (dj := 43) rfl (.inl (congrArg Value.bool rfl)) (fun _ => rfl) rfl ?_
      refine RS.nil ⟨(by repeat (first | exact List.Sublist.refl _ | exact List.nil_sublist _ | refine List.Sublist.cons_cons _ ?_ | refine List.Sublist.cons _ ?_ | exact Sbp.refl | exact Sbp.nil | refine Sbp.cons (by repeat (first | exact Rem.head | apply Rem.tail)) ?_ | exact Sbp.app | refine Sbp.skip ?_)), ?_⟩
      refine RT.takeOff (i := 38) (dj := 43) rfl rfl (.inl (congrArg Value.bool rfl)) (fun _ => rfl) (by kernel_rfl) rfl ?_
      refine RT.take (i := 39) rfl (by kernel_rfl) rfl (QO.pickT (by rfl) rfl (by rfl)) ?_
      refine RT.take (i := 40) rfl (by kernel_rfl) rfl (QO.assign) ?_
      refine RT.done (by kernel_rfl) ?_
      refine thenC_n ?_
      refine CS.condT (by rfl) rfl ?_
      refine CS.seq ?_
      refine CS.region ?_
      refine RS.q rfl (QO.assign) ?_
      refine RS.nil ?_
      refine thenC_n ?_
      refine CS.ret ?_
      refine blockC_r ?_
      refine thenC_r ?_
      refine retQ.mk (H' := []) (.inr rfl) (RVs.tmp (by rfl) RVs.nil) (List.nil_sublist _) ?_
      exact ⟨congrArg iv (by first | exact (codE_1 (Decidable.not_not.1 (of_decide_eq_false hb0p))).symm | exact (codE_3 hne (by omega)).symm | exact (codE_5 hne (by omega) (by refine ⟨?_, ?_, ?_, ?_⟩ <;> omega)).symm | exact (codE_0 hne (by omega) (by rintro ⟨a1, a2, a3, a4⟩; omega)).symm), rfl⟩
    · have hb1p := of_decide_eq_false hb1
      refine RT.takeOn (i := 4) (dj := 13) rfl rfl (congrArg Value.bool hb1) (by kernel_rfl) rfl (QO.fieldAddr fo59_0 (by rfl)) ?_
      first | (refine RT.takeOn (i := 5) (dj := 13) rfl rfl (congrArg Value.bool hb1) (by kernel_rfl) rfl (QO.load ty3 (by rfl) (by repeat (first | exact List.Mem.head _ | refine List.Mem.tail _ ?_)) (by rfl)) ?_) | (refine RT.takeOn (i := 5) (dj := 13) rfl rfl (congrArg Value.bool hb1) (by kernel_rfl) rfl (QO.loadO ty3 (by rfl) (by assumption)) ?_) | (refine RT.takeOn (i := 5) (dj := 13) rfl rfl (congrArg Value.bool hb1) (by kernel_rfl) rfl (QO.load ty3 (by rfl) (by repeat (first | exact List.Mem.head _ | refine List.Mem.tail _ ?_)) (by assumption)) ?_)
      refine RT.takeOn (i := 6) (dj := 13) rfl rfl (congrArg Value.bool hb1) (by kernel_rfl) rfl (QO.gtr (by rfl) (by rfl)) ?_
      refine RT.take (i := 7) rfl (by kernel_rfl) rfl (QO.pickF (by rfl) hb1 (by rfl)) ?_
      refine RT.take (i := 8) rfl (by kernel_rfl) rfl (QO.move) ?_
      refine RT.split (dj := 18) (by rfl) (fun hb2 => ?_) (fun hb2 => ?_)
      · have hb2p := of_decide_eq_true hb2
        refine RT.takeOff (i := 9) (dj := 18) rfl rfl (.inl (congrArg Value.bool hb2)) (fun _ => rfl) (by kernel_rfl) rfl ?_
        refine RT.takeOff (i := 10) (dj := 18) rfl rfl (.inl (congrArg Value.bool hb2)) (fun _ => rfl) (by kernel_rfl) rfl ?_
        refine RT.takeOff (i := 11) (dj := 18) rfl rfl (.inl (congrArg Value.bool hb2)) (fun _ => rfl) (by kernel_rfl) rfl ?_
        refine RT.take (i := 12) rfl (by kernel_rfl) rfl (QO.pickT (by rfl) hb2 (by rfl)) ?_
        refine RT.take (i := 13) rfl (by kernel_rfl) rfl (QO.move) ?_
        refine RT.takeOff (i := 14) (dj := 23) rfl rfl (.inl (congrArg Value.bool rfl)) (fun _ => rfl) (by kernel_rfl) rfl ?_
        refine RT.takeOff (i := 15) (dj := 23) rfl rfl (.inl (congrArg Value.bool rfl)) (fun _ => rfl) (by kernel_rfl) rfl ?_
        refine RT.takeOff (i := 16) (dj := 23) rfl rfl (.inl (congrArg Value.bool rfl)) (fun _ => rfl) (by kernel_rfl) rfl ?_
        refine RT.take (i := 17) rfl (by kernel_rfl) rfl (QO.pickT (by rfl) rfl (by rfl)) ?_
        refine RT.take (i := 18) rfl (by kernel_rfl) rfl (QO.move) ?_
        refine RT.takeOff (i := 19) (dj := 28) rfl rfl (.inl (congrArg Value.bool rfl)) (fun _ => rfl) (by kernel_rfl) rfl ?_
        refine RT.takeOff (i := 20) (dj := 28) rfl rfl (.inl (congrArg Value.bool rfl)) (fun _ => rfl) (by kernel_rfl) rfl ?_
        refine RT.takeOff (i := 21) (dj := 28) rfl rfl (.inl (congrArg Value.bool rfl)) (fun _ => rfl) (by kernel_rfl) rfl ?_
        refine RT.take (i := 22) rfl (by kernel_rfl) rfl (QO.pickT (by rfl) rfl (by rfl)) ?_
        refine RT.take (i := 23) rfl (by kernel_rfl) rfl (QO.move) ?_
        refine RT.takeOff (i := 24) (dj := 33) rfl rfl (.inl (congrArg Value.bool rfl)) (fun _ => rfl) (by kernel_rfl) rfl ?_
        refine RT.takeOff (i := 25) (dj := 33) rfl rfl (.inl (congrArg Value.bool rfl)) (fun _ => rfl) (by kernel_rfl) rfl ?_
        refine RT.takeOff (i := 26) (dj := 33) rfl rfl (.inl (congrArg Value.bool rfl)) (fun _ => rfl) (by kernel_rfl) rfl ?_
        refine RT.take (i := 27) rfl (by kernel_rfl) rfl (QO.pickT (by rfl) rfl (by rfl)) ?_
        refine RT.take (i := 28) rfl (by kernel_rfl) rfl (QO.move) ?_
        refine RT.takeOff (i := 29) (dj := 38) rfl rfl (.inl (congrArg Value.bool rfl)) (fun _ => rfl) (by kernel_rfl) rfl ?_
        refine RT.takeOff (i := 30) (dj := 38) rfl rfl (.inl (congrArg Value.bool rfl)) (fun _ => rfl) (by kernel_rfl) rfl ?_
        refine RT.takeOff (i := 31) (dj := 38) rfl rfl (.inl (congrArg Value.bool rfl)) (fun _ => rfl) (by kernel_rfl) rfl ?_
        refine RT.take (i := 32) rfl (by kernel_rfl) rfl (QO.pickT (by rfl) rfl (by rfl)) ?_
        refine RT.take (i := 33) rfl (by kernel_rfl) rfl (QO.move) ?_
        refine RT.takeOff (i := 34) (dj := 43) rfl rfl (.inl (congrArg Value.bool rfl)) (fun _ => rfl) (by kernel_rfl) rfl ?_
        refine RT.takeOff (i := 35) (dj := 43) rfl rfl (.inl (congrArg Value.bool rfl)) (fun _ => rfl) (by kernel_rfl) rfl ?_
        refine RT.takeOff (i := 36) (dj := 43) rfl rfl (.inl (congrArg Value.bool rfl)) (fun _ => rfl) (by kernel_rfl) rfl ?_
        refine RT.one (i := 37) (by kernel_rfl) rfl rfl ?_
        refine RS.off (dj := 43) rfl (.inl (congrArg Value.bool rfl)) (fun _ => rfl) rfl ?_
        refine RS.nil ⟨(by repeat (first | exact List.Sublist.refl _ | exact List.nil_sublist _ | refine List.Sublist.cons_cons _ ?_ | refine List.Sublist.cons _ ?_ | exact Sbp.refl | exact Sbp.nil | refine Sbp.cons (by repeat (first | exact Rem.head | apply Rem.tail)) ?_ | exact Sbp.app | refine Sbp.skip ?_)), ?_⟩
        refine RT.takeOff (i := 38) (dj := 43) rfl rfl (.inl (congrArg Value.bool rfl)) (fun _ => rfl) (by kernel_rfl) rfl ?_
        refine RT.take (i := 39) rfl (by kernel_rfl) rfl (QO.pickT (by rfl) rfl (by rfl)) ?_
        refine RT.take (i := 40) rfl (by kernel_rfl) rfl (QO.assign) ?_
        refine RT.done (by kernel_rfl) ?_
        refine thenC_n ?_
        refine CS.condT (by rfl) rfl ?_
        refine CS.seq ?_
        refine CS.region ?_
        refine RS.q rfl (QO.assign) ?_
        refine RS.nil ?_
        refine thenC_n ?_
        refine CS.ret ?_
        refine blockC_r ?_
        refine thenC_r ?_
        refine retQ.mk (H' := []) (.inr rfl) (RVs.tmp (by rfl) RVs.nil) (List.nil_sublist _) ?_
        exact ⟨congrArg iv (by first | exact (codE_1 (Decidable.not_not.1 (of_decide_eq_false hb0p))).symm | exact (codE_3 hne (by omega)).symm | exact (codE_5 hne (by omega) (by refine ⟨?_, ?_, ?_, ?_⟩ <;> omega)).symm | exact (codE_0 hne (by omega) (by rintro ⟨a1, a2, a3, a4⟩; omega)).symm), rfl⟩
      · have hb2p := of_decide_eq_false hb2
        refine RT.takeOn (i := 9) (dj := 18) rfl rfl (congrArg Value.bool hb2) (by kernel_rfl) rfl (QO.fieldAddr fo59_1 (by rfl)) ?_
        first | (refine RT.takeOn (i := 10) (dj := 18) rfl rfl (congrArg Value.bool hb2) (by kernel_rfl) rfl (QO.load ty3 (by rfl) (by repeat (first | exact List.Mem.head _ | refine List.Mem.tail _ ?_)) (by rfl)) ?_) | (refine RT.takeOn (i := 10) (dj := 18) rfl rfl (congrArg Value.bool hb2) (by kernel_rfl) rfl (QO.loadO ty3 (by rfl) (by assumption)) ?_) | (refine RT.takeOn (i := 10) (dj := 18) rfl rfl (congrArg Value.bool hb2) (by kernel_rfl) rfl (QO.load ty3 (by rfl) (by repeat (first | exact List.Mem.head _ | refine List.Mem.tail _ ?_)) (by assumption)) ?_)
        refine RT.takeOn (i := 11) (dj := 18) rfl rfl (congrArg Value.bool hb2) (by kernel_rfl) rfl (QO.lss (by rfl) (by rfl)) ?_
        refine RT.take (i := 12) rfl (by kernel_rfl) rfl (QO.pickF (by rfl) hb2 (by rfl)) ?_
        refine RT.take (i := 13) rfl (by kernel_rfl) rfl (QO.move) ?_
        refine RT.split (dj := 23) (by rfl) (fun hb3 => ?_) (fun hb3 => ?_)
        · have hb3p := of_decide_eq_true hb3
          refine RT.takeOff (i := 14) (dj := 23) rfl rfl (.inl (congrArg Value.bool hb3)) (fun _ => rfl) (by kernel_rfl) rfl ?_
          refine RT.takeOff (i := 15) (dj := 23) rfl rfl (.inl (congrArg Value.bool hb3)) (fun _ => rfl) (by kernel_rfl) rfl ?_
          refine RT.takeOff (i := 16) (dj := 23) rfl rfl (.inl (congrArg Value.bool hb3)) (fun _ => rfl) (by kernel_rfl) rfl ?_
          refine RT.take (i := 17) rfl (by kernel_rfl) rfl (QO.pickT (by rfl) hb3 (by rfl)) ?_
          refine RT.take (i := 18) rfl (by kernel_rfl) rfl (QO.move) ?_
          refine RT.takeOff (i := 19) (dj := 28) rfl rfl (.inl (congrArg Value.bool rfl)) (fun _ => rfl) (by kernel_rfl) rfl ?_
          refine RT.takeOff (i := 20) (dj := 28) rfl rfl (.inl (congrArg Value.bool rfl)) (fun _ => rfl) (by kernel_rfl) rfl ?_
          refine RT.takeOff (i := 21) (dj := 28) rfl rfl (.inl (congrArg Value.bool rfl)) (fun _ => rfl) (by kernel_rfl) rfl ?_
          refine RT.take (i := 22) rfl (by kernel_rfl) rfl (QO.pickT (by rfl) rfl (by rfl)) ?_
          refine RT.take (i := 23) rfl (by kernel_rfl) rfl (QO.move) ?_
          refine RT.takeOff (i := 24) (dj := 33) rfl rfl (.inl (congrArg Value.bool rfl)) (fun _ => rfl) (by kernel_rfl) rfl ?_
          refine RT.takeOff (i := 25) (dj := 33) rfl rfl (.inl (congrArg Value.bool rfl)) (fun _ => rfl) (by kernel_rfl) rfl ?_
          refine RT.takeOff (i := 26) (dj := 33) rfl rfl (.inl (congrArg Value.bool rfl)) (fun _ => rfl) (by kernel_rfl) rfl ?_
          refine RT.take (i := 27) rfl (by kernel_rfl) rfl (QO.pickT (by rfl) rfl (by rfl)) ?_
          refine RT.take (i := 28) rfl (by kernel_rfl) rfl (QO.move) ?_
          refine RT.takeOff (i := 29) (dj := 38) rfl rfl (.inl (congrArg Value.bool rfl)) (fun _ => rfl) (by kernel_rfl) rfl ?_
          refine RT.takeOff (i := 30) (dj := 38) rfl rfl (.inl (congrArg Value.bool rfl)) (fun _ => rfl) (by kernel_rfl) rfl ?_
          refine RT.takeOff (i := 31) (dj := 38) rfl rfl (.inl (congrArg Value.bool rfl)) (fun _ => rfl) (by kernel_rfl) rfl ?_
          refine RT.take (i := 32) rfl (by kernel_rfl) rfl (QO.pickT (by rfl) rfl (by rfl)) ?_
          refine RT.take (i := 33) rfl (by kernel_rfl) rfl (QO.move) ?_
          refine RT.takeOff (i := 34) (dj := 43) rfl rfl (.inl (congrArg Value.bool rfl)) (fun _ => rfl) (by kernel_rfl) rfl ?_
          refine RT.takeOff (i := 35) (dj := 43) rfl rfl (.inl (congrArg Value.bool rfl)) (fun _ => rfl) (by kernel_rfl) rfl ?_
          refine RT.takeOff (i := 36) (dj := 43) rfl rfl (.inl (congrArg Value.bool rfl)) (fun _ => rfl) (by kernel_rfl) rfl ?_
          refine RT.one (i := 37) (by kernel_rfl) rfl rfl ?_
          refine RS.off (dj := 43) rfl (.inl (congrArg Value.bool rfl)) (fun _ => rfl) rfl ?_
          refine RS.nil ⟨(by repeat (first | exact List.Sublist.refl _ | exact List.nil_sublist _ | refine List.Sublist.cons_cons _ ?_ | refine List.Sublist.cons _ ?_ | exact Sbp.refl | exact Sbp.nil | refine Sbp.cons (by repeat (first | exact Rem.head | apply Rem.tail)) ?_ | exact Sbp.app | refine Sbp.skip ?_)), ?_⟩
          refine RT.takeOff (i := 38) (dj := 43) rfl rfl (.inl (congrArg Value.bool rfl)) (fun _ => rfl) (by kernel_rfl) rfl ?_
          refine RT.take (i := 39) rfl (by kernel_rfl) rfl (QO.pickT (by rfl) rfl (by rfl)) ?_
          refine RT.take (i := 40) rfl (by kernel_rfl) rfl (QO.assign) ?_
          refine RT.done (by kernel_rfl) ?_
          refine thenC_n ?_
          refine CS.condT (by rfl) rfl ?_
          refine CS.seq ?_
          refine CS.region ?_
          refine RS.q rfl (QO.assign) ?_
          refine RS.nil ?_
          refine thenC_n ?_
          refine CS.ret ?_
          refine blockC_r ?_
          refine thenC_r ?_
          refine retQ.mk (H' := []) (.inr rfl) (RVs.tmp (by rfl) RVs.nil) (List.nil_sublist _) ?_
          exact ⟨congrArg iv (by first | exact (codE_1 (Decidable.not_not.1 (of_decide_eq_false hb0p))).symm | exact (codE_3 hne (by omega)).symm | exact (codE_5 hne (by omega) (by refine ⟨?_, ?_, ?_, ?_⟩ <;> omega)).symm | exact (codE_0 hne (by omega) (by rintro ⟨a1, a2, a3, a4⟩; omega)).symm), rfl⟩
        · have hb3p := of_decide_eq_false hb3
          refine RT.takeOn (i := 14) (dj := 23) rfl rfl (congrArg Value.bool hb3) (by kernel_rfl) rfl (QO.fieldAddr fo59_1 (by rfl)) ?_
          first | (refine RT.takeOn (i := 15) (dj := 23) rfl rfl (congrArg Value.bool hb3) (by kernel_rfl) rfl (QO.load ty3 (by rfl) (by repeat (first | exact List.Mem.head _ | refine List.Mem.tail _ ?_)) (by rfl)) ?_) | (refine RT.takeOn (i := 15) (dj := 23) rfl rfl (congrArg Value.bool hb3) (by kernel_rfl) rfl (QO.loadO ty3 (by rfl) (by assumption)) ?_) | (refine RT.takeOn (i := 15) (dj := 23) rfl rfl (congrArg Value.bool hb3) (by kernel_rfl) rfl (QO.load ty3 (by rfl) (by repeat (first | exact List.Mem.head _ | refine List.Mem.tail _ ?_)) (by assumption)) ?_)
          refine RT.takeOn (i := 16) (dj := 23) rfl rfl (congrArg Value.bool hb3) (by kernel_rfl) rfl (QO.gtr (by rfl) (by rfl)) ?_
          refine RT.take (i := 17) rfl (by kernel_rfl) rfl (QO.pickF (by rfl) hb3 (by rfl)) ?_
          refine RT.take (i := 18) rfl (by kernel_rfl) rfl (QO.move) ?_
          refine RT.split (dj := 28) (by rfl) (fun hb4 => ?_) (fun hb4 => ?_)
          · have hb4p := of_decide_eq_true hb4
            refine RT.takeOff (i := 19) (dj := 28) rfl rfl (.inl (congrArg Value.bool hb4)) (fun _ => rfl) (by kernel_rfl) rfl ?_
            refine RT.takeOff (i := 20) (dj := 28) rfl rfl (.inl (congrArg Value.bool hb4)) (fun _ => rfl) (by kernel_rfl) rfl ?_
            refine RT.takeOff (i := 21) (dj := 28) rfl rfl (.inl (congrArg Value.bool hb4)) (fun _ => rfl) (by kernel_rfl) rfl ?_
            refine RT.take (i := 22) rfl (by kernel_rfl) rfl (QO.pickT (by rfl) hb4 (by rfl)) ?_
            refine RT.take (i := 23) rfl (by kernel_rfl) rfl (QO.move) ?_
            refine RT.takeOff (i := 24) (dj := 33) rfl rfl (.inl (congrArg Value.bool rfl)) (fun _ => rfl) (by kernel_rfl) rfl ?_
            refine RT.takeOff (i := 25) (dj := 33) rfl rfl (.inl (congrArg Value.bool rfl)) (fun _ => rfl) (by kernel_rfl) rfl ?_
            refine RT.takeOff (i := 26) (dj := 33) rfl rfl (.inl (congrArg Value.bool rfl)) (fun _ => rfl) (by kernel_rfl) rfl ?_
            refine RT.take (i := 27) rfl (by kernel_rfl) rfl (QO.pickT (by rfl) rfl (by rfl)) ?_
            refine RT.take (i := 28) rfl (by kernel_rfl) rfl (QO.move) ?_
            refine RT.takeOff (i := 29) (dj := 38) rfl rfl (.inl (congrArg Value.bool rfl)) (fun _ => rfl) (by kernel_rfl) rfl ?_
            refine RT.takeOff (i := 30) (dj := 38) rfl rfl (.inl (congrArg Value.bool rfl)) (fun _ => rfl) (by kernel_rfl) rfl ?_
            refine RT.takeOff (i := 31) (dj := 38) rfl rfl (.inl (congrArg Value.bool rfl)) (fun _ => rfl) (by kernel_rfl) rfl ?_
            refine RT.take (i := 32) rfl (by kernel_rfl) rfl (QO.pickT (by rfl) rfl (by rfl)) ?_
            refine RT.take (i := 33) rfl (by kernel_rfl) rfl (QO.move) ?_
            refine RT.takeOff (i := 34) (dj := 43) rfl rfl (.inl (congrArg Value.bool rfl)) (fun _ => rfl) (by kernel_rfl) rfl ?_
            refine RT.takeOff (i := 35) (dj := 43) rfl rfl (.inl (congrArg Value.bool rfl)) (fun _ => rfl) (by kernel_rfl) rfl ?_
            refine RT.takeOff (i := 36) (dj := 43) rfl rfl (.inl (congrArg Value.bool rfl)) (fun _ => rfl) (by kernel_rfl) rfl ?_
            refine RT.one (i := 37) (by kernel_rfl) rfl rfl ?_
            refine RS.off (dj := 43) rfl (.inl (congrArg Value.bool rfl)) (fun _ => rfl) rfl ?_
            refine RS.nil ⟨(by repeat (first | exact List.Sublist.refl _ | exact List.nil_sublist _ | refine List.Sublist.cons_cons _ ?_ | refine List.Sublist.cons _ ?_ | exact Sbp.refl | exact Sbp.nil | refine Sbp.cons (by repeat (first | exact Rem.head | apply Rem.tail)) ?_ | exact Sbp.app | refine Sbp.skip ?_)), ?_⟩
            refine RT.takeOff (i := 38) (dj := 43) rfl rfl (.inl (congrArg Value.bool rfl)) (fun _ => rfl) (by kernel_rfl) rfl ?_
            refine RT.take (i := 39) rfl (by kernel_rfl) rfl (QO.pickT (by rfl) rfl (by rfl)) ?_
            refine RT.take (i := 40) rfl (by kernel_rfl) rfl (QO.assign) ?_
            refine RT.done (by kernel_rfl) ?_
            refine thenC_n ?_
            refine CS.condT (by rfl) rfl ?_
            refine CS.seq ?_
            refine CS.region ?_
            refine RS.q rfl (QO.assign) ?_
            refine RS.nil ?_
            refine thenC_n ?_
            refine CS.ret ?_
            refine blockC_r ?_
            refine thenC_r ?_
            refine retQ.mk (H' := []) (.inr rfl) (RVs.tmp (by rfl) RVs.nil) (List.nil_sublist _) ?_
            exact ⟨congrArg iv (by first | exact (codE_1 (Decidable.not_not.1 (of_decide_eq_false hb0p))).symm | exact (codE_3 hne (by omega)).symm | exact (codE_5 hne (by omega) (by refine ⟨?_, ?_, ?_, ?_⟩ <;> omega)).symm | exact (codE_0 hne (by omega) (by rintro ⟨a1, a2, a3, a4⟩; omega)).symm), rfl⟩
          · have hb4p := of_decide_eq_false hb4
            refine RT.takeOn (i := 19) (dj := 28) rfl rfl (congrArg Value.bool hb4) (by kernel_rfl) rfl (QO.fieldAddr fo59_2 (by rfl)) ?_
            first | (refine RT.takeOn (i := 20) (dj := 28) rfl rfl (congrArg Value.bool hb4) (by kernel_rfl) rfl (QO.load ty3 (by rfl) (by repeat (first | exact List.Mem.head _ | refine List.Mem.tail _ ?_)) (by rfl)) ?_) | (refine RT.takeOn (i := 20) (dj := 28) rfl rfl (congrArg Value.bool hb4) (by kernel_rfl) rfl (QO.loadO ty3 (by rfl) (by assumption)) ?_) | (refine RT.takeOn (i := 20) (dj := 28) rfl rfl (congrArg Value.bool hb4) (by kernel_rfl) rfl (QO.load ty3 (by rfl) (by repeat (first | exact List.Mem.head _ | refine List.Mem.tail _ ?_)) (by assumption)) ?_)
            refine RT.takeOn (i := 21) (dj := 28) rfl rfl (congrArg Value.bool hb4) (by kernel_rfl) rfl (QO.lss (by rfl) (by rfl)) ?_
            refine RT.take (i := 22) rfl (by kernel_rfl) rfl (QO.pickF (by rfl) hb4 (by rfl)) ?_
            refine RT.take (i := 23) rfl (by kernel_rfl) rfl (QO.move) ?_
            refine RT.split (dj := 33) (by rfl) (fun hb5 => ?_) (fun hb5 => ?_)
            · have hb5p := of_decide_eq_true hb5
              refine RT.takeOff (i := 24) (dj := 33) rfl rfl (.inl (congrArg Value.bool hb5)) (fun _ => rfl) (by kernel_rfl) rfl ?_
              refine RT.takeOff (i := 25) (dj := 33) rfl rfl (.inl (congrArg Value.bool hb5)) (fun _ => rfl) (by kernel_rfl) rfl ?_
              refine RT.takeOff (i := 26) (dj := 33) rfl rfl (.inl (congrArg Value.bool hb5)) (fun _ => rfl) (by kernel_rfl) rfl ?_
              refine RT.take (i := 27) rfl (by kernel_rfl) rfl (QO.pickT (by rfl) hb5 (by rfl)) ?_
              refine RT.take (i := 28) rfl (by kernel_rfl) rfl (QO.move) ?_
              refine RT.takeOff (i := 29) (dj := 38) rfl rfl (.inl (congrArg Value.bool rfl)) (fun _ => rfl) (by kernel_rfl) rfl ?_
              refine RT.takeOff (i := 30) (dj := 38) rfl rfl (.inl (congrArg Value.bool rfl)) (fun _ => rfl) (by kernel_rfl) rfl ?_
              refine RT.takeOff (i := 31) (dj := 38) rfl rfl (.inl (congrArg Value.bool rfl)) (fun _ => rfl) (by kernel_rfl) rfl ?_
              refine RT.take (i := 32) rfl (by kernel_rfl) rfl (QO.pickT (by rfl) rfl (by rfl)) ?_
              refine RT.take (i := 33) rfl (by kernel_rfl) rfl (QO.move) ?_
              refine RT.takeOff (i := 34) (dj := 43) rfl rfl (.inl (congrArg Value.bool rfl)) (fun _ => rfl) (by kernel_rfl) rfl ?_
              refine RT.takeOff (i := 35) (dj := 43) rfl rfl (.inl (congrArg Value.bool rfl)) (fun _ => rfl) (by kernel_rfl) rfl ?_
              refine RT.takeOff (i := 36) (dj := 43) rfl rfl (.inl (congrArg Value.bool rfl)) (fun _ => rfl) (by kernel_rfl) rfl ?_
              refine RT.one (i := 37) (by kernel_rfl) rfl rfl ?_
              refine RS.off (dj := 43) rfl (.inl (congrArg Value.bool rfl)) (fun _ => rfl) rfl ?_
              refine RS.nil ⟨(by repeat (first | exact List.Sublist.refl _ | exact List.nil_sublist _ | refine List.Sublist.cons_cons _ ?_ | refine List.Sublist.cons _ ?_ | exact Sbp.refl | exact Sbp.nil | refine Sbp.cons (by repeat (first | exact Rem.head | apply Rem.tail)) ?_ | exact Sbp.app | refine Sbp.skip ?_)), ?_⟩
              refine RT.takeOff (i := 38) (dj := 43) rfl rfl (.inl (congrArg Value.bool rfl)) (fun _ => rfl) (by kernel_rfl) rfl ?_
              refine RT.take (i := 39) rfl (by kernel_rfl) rfl (QO.pickT (by rfl) rfl (by rfl)) ?_
              refine RT.take (i := 40) rfl (by kernel_rfl) rfl (QO.assign) ?_
              refine RT.done (by kernel_rfl) ?_
              refine thenC_n ?_
              refine CS.condT (by rfl) rfl ?_
              refine CS.seq ?_
              refine CS.region ?_
              refine RS.q rfl (QO.assign) ?_
              refine RS.nil ?_
              refine thenC_n ?_
              refine CS.ret ?_
              refine blockC_r ?_
              refine thenC_r ?_
              refine retQ.mk (H' := []) (.inr rfl) (RVs.tmp (by rfl) RVs.nil) (List.nil_sublist _) ?_
              exact ⟨congrArg iv (by first | exact (codE_1 (Decidable.not_not.1 (of_decide_eq_false hb0p))).symm | exact (codE_3 hne (by omega)).symm | exact (codE_5 hne (by omega) (by refine ⟨?_, ?_, ?_, ?_⟩ <;> omega)).symm | exact (codE_0 hne (by omega) (by rintro ⟨a1, a2, a3, a4⟩; omega)).symm), rfl⟩
            · have hb5p := of_decide_eq_false hb5
              refine RT.takeOn (i := 24) (dj := 33) rfl rfl (congrArg Value.bool hb5) (by kernel_rfl) rfl (QO.fieldAddr fo59_2 (by rfl)) ?_
              first | (refine RT.takeOn (i := 25) (dj := 33) rfl rfl (congrArg Value.bool hb5) (by kernel_rfl) rfl (QO.load ty3 (by rfl) (by repeat (first | exact List.Mem.head _ | refine List.Mem.tail _ ?_)) (by rfl)) ?_) | (refine RT.takeOn (i := 25) (dj := 33) rfl rfl (congrArg Value.bool hb5) (by kernel_rfl) rfl (QO.loadO ty3 (by rfl) (by assumption)) ?_) | (refine RT.takeOn (i := 25) (dj := 33) rfl rfl (congrArg Value.bool hb5) (by kernel_rfl) rfl (QO.load ty3 (by rfl) (by repeat (first | exact List.Mem.head _ | refine List.Mem.tail _ ?_)) (by assumption)) ?_)
              refine RT.takeOn (i := 26) (dj := 33) rfl rfl (congrArg Value.bool hb5) (by kernel_rfl) rfl (QO.gtr (by rfl) (by rfl)) ?_
              refine RT.take (i := 27) rfl (by kernel_rfl) rfl (QO.pickF (by rfl) hb5 (by rfl)) ?_
              refine RT.take (i := 28) rfl (by kernel_rfl) rfl (QO.move) ?_
              refine RT.split (dj := 38) (by rfl) (fun hb6 => ?_) (fun hb6 => ?_)
              · have hb6p := of_decide_eq_true hb6
                refine RT.takeOff (i := 29) (dj := 38) rfl rfl (.inl (congrArg Value.bool hb6)) (fun _ => rfl) (by kernel_rfl) rfl ?_
                refine RT.takeOff (i := 30) (dj := 38) rfl rfl (.inl (congrArg Value.bool hb6)) (fun _ => rfl) (by kernel_rfl) rfl ?_
                refine RT.takeOff (i := 31) (dj := 38) rfl rfl (.inl (congrArg Value.bool hb6)) (fun _ => rfl) (by kernel_rfl) rfl ?_
                refine RT.take (i := 32) rfl (by kernel_rfl) rfl (QO.pickT (by rfl) hb6 (by rfl)) ?_
                refine RT.take (i := 33) rfl (by kernel_rfl) rfl (QO.move) ?_
                refine RT.takeOff (i := 34) (dj := 43) rfl rfl (.inl (congrArg Value.bool rfl)) (fun _ => rfl) (by kernel_rfl) rfl ?_
                refine RT.takeOff (i := 35) (dj := 43) rfl rfl (.inl (congrArg Value.bool rfl)) (fun _ => rfl) (by kernel_rfl) rfl ?_
                refine RT.takeOff (i := 36) (dj := 43) rfl rfl (.inl (congrArg Value.bool rfl)) (fun _ => rfl) (by kernel_rfl) rfl ?_
                refine RT.one (i := 37) (by kernel_rfl) rfl rfl ?_
                refine RS.off (dj := 43) rfl (.inl (congrArg Value.bool rfl)) (fun _ => rfl) rfl ?_
                refine RS.nil ⟨(by repeat (first | exact List.Sublist.refl _ | exact List.nil_sublist _ | refine List.Sublist.cons_cons _ ?_ | refine List.Sublist.cons _ ?_ | exact Sbp.refl | exact Sbp.nil | refine Sbp.cons (by repeat (first | exact Rem.head | apply Rem.tail)) ?_ | exact Sbp.app | refine Sbp.skip ?_)), ?_⟩
                refine RT.takeOff (i := 38) (dj := 43) rfl rfl (.inl (congrArg Value.bool rfl)) (fun _ => rfl) (by kernel_rfl) rfl ?_
                refine RT.take (i := 39) rfl (by kernel_rfl) rfl (QO.pickT (by rfl) rfl (by rfl)) ?_
                refine RT.take (i := 40) rfl (by kernel_rfl) rfl (QO.assign) ?_
                refine RT.done (by kernel_rfl) ?_
                refine thenC_n ?_
                refine CS.condT (by rfl) rfl ?_
                refine CS.seq ?_
                refine CS.region ?_
                refine RS.q rfl (QO.assign) ?_
                refine RS.nil ?_
                refine thenC_n ?_
                refine CS.ret ?_
                refine blockC_r ?_
                refine thenC_r ?_
                refine retQ.mk (H' := []) (.inr rfl) (RVs.tmp (by rfl) RVs.nil) (List.nil_sublist _) ?_
                exact ⟨congrArg iv (by first | exact (codE_1 (Decidable.not_not.1 (of_decide_eq_false hb0p))).symm | exact (codE_3 hne (by omega)).symm | exact (codE_5 hne (by omega) (by refine ⟨?_, ?_, ?_, ?_⟩ <;> omega)).symm | exact (codE_0 hne (by omega) (by rintro ⟨a1, a2, a3, a4⟩; omega)).symm), rfl⟩
              · have hb6p := of_decide_eq_false hb6
                refine RT.takeOn (i := 29) (dj := 38) rfl rfl (congrArg Value.bool hb6) (by kernel_rfl) rfl (QO.fieldAddr fo59_3 (by rfl)) ?_
                first | (refine RT.takeOn (i := 30) (dj := 38) rfl rfl (congrArg Value.bool hb6) (by kernel_rfl) rfl (QO.load ty3 (by rfl) (by repeat (first | exact List.Mem.head _ | refine List.Mem.tail _ ?_)) (by rfl)) ?_) | (refine RT.takeOn (i := 30) (dj := 38) rfl rfl (congrArg Value.bool hb6) (by kernel_rfl) rfl (QO.loadO ty3 (by rfl) (by assumption)) ?_) | (refine RT.takeOn (i := 30) (dj := 38) rfl rfl (congrArg Value.bool hb6) (by kernel_rfl) rfl (QO.load ty3 (by rfl) (by repeat (first | exact List.Mem.head _ | refine List.Mem.tail _ ?_)) (by assumption)) ?_)
                refine RT.takeOn (i := 31) (dj := 38) rfl rfl (congrArg Value.bool hb6) (by kernel_rfl) rfl (QO.lss (by rfl) (by rfl)) ?_
                refine RT.take (i := 32) rfl (by kernel_rfl) rfl (QO.pickF (by rfl) hb6 (by rfl)) ?_
                refine RT.take (i := 33) rfl (by kernel_rfl) rfl (QO.move) ?_
                refine RT.split (dj := 43) (by rfl) (fun hb7 => ?_) (fun hb7 => ?_)
                · have hb7p := of_decide_eq_true hb7
                  refine RT.takeOff (i := 34) (dj := 43) rfl rfl (.inl (congrArg Value.bool hb7)) (fun _ => rfl) (by kernel_rfl) rfl ?_
                  refine RT.takeOff (i := 35) (dj := 43) rfl rfl (.inl (congrArg Value.bool hb7)) (fun _ => rfl) (by kernel_rfl) rfl ?_
                  refine RT.takeOff (i := 36) (dj := 43) rfl rfl (.inl (congrArg Value.bool hb7)) (fun _ => rfl) (by kernel_rfl) rfl ?_
                  refine RT.one (i := 37) (by kernel_rfl) rfl rfl ?_
                  refine RS.off (dj := 43) rfl (.inl (congrArg Value.bool hb7)) (fun _ => rfl) rfl ?_
                  refine RS.nil ⟨(by repeat (first | exact List.Sublist.refl _ | exact List.nil_sublist _ | refine List.Sublist.cons_cons _ ?_ | refine List.Sublist.cons _ ?_ | exact Sbp.refl | exact Sbp.nil | refine Sbp.cons (by repeat (first | exact Rem.head | apply Rem.tail)) ?_ | exact Sbp.app | refine Sbp.skip ?_)), ?_⟩
                  refine RT.takeOff (i := 38) (dj := 43) rfl rfl (.inl (congrArg Value.bool hb7)) (fun _ => rfl) (by kernel_rfl) rfl ?_
                  refine RT.take (i := 39) rfl (by kernel_rfl) rfl (QO.pickT (by rfl) hb7 (by rfl)) ?_
                  refine RT.take (i := 40) rfl (by kernel_rfl) rfl (QO.assign) ?_
                  refine RT.done (by kernel_rfl) ?_
                  refine thenC_n ?_
                  refine CS.condT (by rfl) rfl ?_
                  refine CS.seq ?_
                  refine CS.region ?_
                  refine RS.q rfl (QO.assign) ?_
                  refine RS.nil ?_
                  refine thenC_n ?_
                  refine CS.ret ?_
                  refine blockC_r ?_
                  refine thenC_r ?_
                  refine retQ.mk (H' := []) (.inr rfl) (RVs.tmp (by rfl) RVs.nil) (List.nil_sublist _) ?_
                  exact ⟨congrArg iv (by first | exact (codE_1 (Decidable.not_not.1 (of_decide_eq_false hb0p))).symm | exact (codE_3 hne (by omega)).symm | exact (codE_5 hne (by omega) (by refine ⟨?_, ?_, ?_, ?_⟩ <;> omega)).symm | exact (codE_0 hne (by omega) (by rintro ⟨a1, a2, a3, a4⟩; omega)).symm), rfl⟩
                · have hb7p := of_decide_eq_false hb7
                  refine RT.takeOn (i := 34) (dj := 43) rfl rfl (congrArg Value.bool hb7) (by kernel_rfl) rfl (QO.fieldAddr fo59_3 (by rfl)) ?_
                  first | (refine RT.takeOn (i := 35) (dj := 43) rfl rfl (congrArg Value.bool hb7) (by kernel_rfl) rfl (QO.load ty3 (by rfl) (by repeat (first | exact List.Mem.head _ | refine List.Mem.tail _ ?_)) (by rfl)) ?_) | (refine RT.takeOn (i := 35) (dj := 43) rfl rfl (congrArg Value.bool hb7) (by kernel_rfl) rfl (QO.loadO ty3 (by rfl) (by assumption)) ?_) | (refine RT.takeOn (i := 35) (dj := 43) rfl rfl (congrArg Value.bool hb7) (by kernel_rfl) rfl (QO.load ty3 (by rfl) (by repeat (first | exact List.Mem.head _ | refine List.Mem.tail _ ?_)) (by assumption)) ?_)
                  refine RT.takeOn (i := 36) (dj := 43) rfl rfl (congrArg Value.bool hb7) (by kernel_rfl) rfl (QO.move) ?_
                  refine RT.one (i := 37) (by kernel_rfl) rfl rfl ?_
                  refine RS.on (dj := 43) rfl (congrArg Value.bool hb7) ?_
                  refine RS.call rfl (by rfl) ok91 (by rfl) (fun w ho => counted _ _ hne) ?_
                  rintro _ _ ⟨rfl, rfl⟩
                  refine RS.nil ⟨(by repeat (first | exact List.Sublist.refl _ | exact List.nil_sublist _ | refine List.Sublist.cons_cons _ ?_ | refine List.Sublist.cons _ ?_ | exact Sbp.refl | exact Sbp.nil | refine Sbp.cons (by repeat (first | exact Rem.head | apply Rem.tail)) ?_ | exact Sbp.app | refine Sbp.skip ?_)), ?_⟩
                  refine RT.takeOn (i := 38) (dj := 43) rfl rfl (congrArg Value.bool hb7) (by kernel_rfl) rfl (QO.geq (by rfl) (by rfl)) ?_
                  refine RT.take (i := 39) rfl (by kernel_rfl) rfl (QO.pickF (by rfl) hb7 (by rfl)) ?_
                  refine RT.take (i := 40) rfl (by kernel_rfl) rfl (QO.assign) ?_
                  refine RT.done (by kernel_rfl) ?_
                  refine thenC_n ?_
                  refine CS.cond (by rfl) (fun hb8 => ?_) (fun hb8 => ?_)
                  · have hb8p := of_decide_eq_true hb8
                    refine CS.seq ?_
                    refine CS.region ?_
                    refine RS.q rfl (QO.assign) ?_
                    refine RS.nil ?_
                    refine thenC_n ?_
                    refine CS.ret ?_
                    refine blockC_r ?_
                    refine thenC_r ?_
                    refine retQ.mk (H' := []) (.inr rfl) (RVs.tmp (by rfl) RVs.nil) (List.nil_sublist _) ?_
                    exact ⟨congrArg iv (by first | exact (codE_1 (Decidable.not_not.1 (of_decide_eq_false hb0p))).symm | exact (codE_3 hne (by omega)).symm | exact (codE_5 hne (by omega) (by refine ⟨?_, ?_, ?_, ?_⟩ <;> omega)).symm | exact (codE_0 hne (by omega) (by rintro ⟨a1, a2, a3, a4⟩; omega)).symm), rfl⟩
                  · have hb8p := of_decide_eq_false hb8
                    refine CS.seq ?_
                    refine CS.region ?_
                    refine RS.q rfl (QO.move) ?_
                    refine RS.q rfl (QO.eql (by rfl) (by rfl)) ?_
                    refine RS.q rfl (QO.move) ?_
                    refine RS.split (dj := 53) (by rfl) (fun hb9 => ?_) (fun hb9 => ?_)
                    · have hb9p := eq_of_beq hb9
                      refine RS.on (dj := 53) rfl (congrArg Value.bool hb9) ?_
                      refine RS.q rfl (QO.fieldAddr fo59_3 (by rfl)) ?_
                      refine RS.on (dj := 53) rfl (congrArg Value.bool hb9) ?_
                      first | (refine RS.q rfl (QO.load ty3 (by rfl) (by repeat (first | exact List.Mem.head _ | refine List.Mem.tail _ ?_)) (by rfl)) ?_) | (refine RS.q rfl (QO.loadO ty3 (by rfl) (by assumption)) ?_) | (refine RS.q rfl (QO.load ty3 (by rfl) (by repeat (first | exact List.Mem.head _ | refine List.Mem.tail _ ?_)) (by assumption)) ?_)
                      refine RS.on (dj := 53) rfl (congrArg Value.bool hb9) ?_
                      refine RS.q rfl (QO.lss (by rfl) (by rfl)) ?_
                      refine RS.q rfl (QO.pickT (by rfl) hb9 (by rfl)) ?_
                      refine RS.q rfl (QO.move) ?_
                      refine RS.split (dj := 58) (by rfl) (fun hb10 => ?_) (fun hb10 => ?_)
                      · have hb10p := of_decide_eq_true hb10
                        refine RS.on (dj := 58) rfl (congrArg Value.bool hb10) ?_
                        refine RS.q rfl (QO.fieldAddr fo59_2 (by rfl)) ?_
                        refine RS.on (dj := 58) rfl (congrArg Value.bool hb10) ?_
                        first | (refine RS.q rfl (QO.load ty3 (by rfl) (by repeat (first | exact List.Mem.head _ | refine List.Mem.tail _ ?_)) (by rfl)) ?_) | (refine RS.q rfl (QO.loadO ty3 (by rfl) (by assumption)) ?_) | (refine RS.q rfl (QO.load ty3 (by rfl) (by repeat (first | exact List.Mem.head _ | refine List.Mem.tail _ ?_)) (by assumption)) ?_)
                        refine RS.on (dj := 58) rfl (congrArg Value.bool hb10) ?_
                        refine RS.q rfl (QO.eql (by rfl) (by rfl)) ?_
                        refine RS.q rfl (QO.pickT (by rfl) hb10 (by rfl)) ?_
                        refine RS.q rfl (QO.move) ?_
                        refine RS.split (dj := 63) (by rfl) (fun hb11 => ?_) (fun hb11 => ?_)
                        · have hb11p := eq_of_beq hb11
                          refine RS.on (dj := 63) rfl (congrArg Value.bool hb11) ?_
                          refine RS.q rfl (QO.fieldAddr fo59_1 (by rfl)) ?_
                          refine RS.on (dj := 63) rfl (congrArg Value.bool hb11) ?_
                          first | (refine RS.q rfl (QO.load ty3 (by rfl) (by repeat (first | exact List.Mem.head _ | refine List.Mem.tail _ ?_)) (by rfl)) ?_) | (refine RS.q rfl (QO.loadO ty3 (by rfl) (by assumption)) ?_) | (refine RS.q rfl (QO.load ty3 (by rfl) (by repeat (first | exact List.Mem.head _ | refine List.Mem.tail _ ?_)) (by assumption)) ?_)
                          refine RS.on (dj := 63) rfl (congrArg Value.bool hb11) ?_
                          refine RS.q rfl (QO.rem (by rfl) (by rfl) (by omega)) ?_
                          refine RS.on (dj := 63) rfl (congrArg Value.bool hb11) ?_
                          refine RS.q rfl (QO.neq (by rfl) (by rfl)) ?_
                          refine RS.q rfl (QO.pickT (by rfl) hb11 (by rfl)) ?_
                          refine RS.q rfl (QO.assign) ?_
                          refine RS.nil ?_
                          refine thenC_n ?_
                          refine CS.cond (by rfl) (fun hb12 => ?_) (fun hb12 => ?_)
                          · have hb12p := bne_iff_ne.1 hb12
                            refine CS.seq ?_
                            refine CS.region ?_
                            refine RS.q rfl (QO.assign) ?_
                            refine RS.nil ?_
                            refine thenC_n ?_
                            refine CS.ret ?_
                            refine blockC_r ?_
                            refine thenC_r ?_
                            refine retQ.mk (H' := []) (.inr rfl) (RVs.tmp (by rfl) RVs.nil) (List.nil_sublist _) ?_
                            exact ⟨congrArg iv (by first | exact (codE_1 (Decidable.not_not.1 (of_decide_eq_false hb0p))).symm | exact (codE_3 hne (by omega)).symm | exact (codE_5 hne (by omega) (by refine ⟨?_, ?_, ?_, ?_⟩ <;> omega)).symm | exact (codE_0 hne (by omega) (by rintro ⟨a1, a2, a3, a4⟩; omega)).symm), rfl⟩
                          · have hb12p := of_bne_false hb12
                            refine CS.skip ?_
                            refine blockC_n ?_
                            refine thenC_n ?_
                            refine CS.seq ?_
                            refine CS.region ?_
                            refine RS.q rfl (QO.assign) ?_
                            refine RS.nil ?_
                            refine thenC_n ?_
                            refine CS.ret ?_
                            refine retQ.mk (H' := []) (.inr rfl) (RVs.tmp (by rfl) RVs.nil) (List.nil_sublist _) ?_
                            exact ⟨congrArg iv (by first | exact (codE_1 (Decidable.not_not.1 (of_decide_eq_false hb0p))).symm | exact (codE_3 hne (by omega)).symm | exact (codE_5 hne (by omega) (by refine ⟨?_, ?_, ?_, ?_⟩ <;> omega)).symm | exact (codE_0 hne (by omega) (by rintro ⟨a1, a2, a3, a4⟩; omega)).symm), rfl⟩
                        · have hb11p := ne_of_beq_false hb11
                          refine RS.off (dj := 63) rfl (.inl (congrArg Value.bool hb11)) (fun _ => rfl) rfl ?_
                          refine RS.off (dj := 63) rfl (.inl (congrArg Value.bool hb11)) (fun _ => rfl) rfl ?_
                          refine RS.off (dj := 63) rfl (.inl (congrArg Value.bool hb11)) (fun _ => rfl) rfl ?_
                          refine RS.off (dj := 63) rfl (.inl (congrArg Value.bool hb11)) (fun _ => rfl) rfl ?_
                          refine RS.q rfl (QO.pickF (by rfl) hb11 (by rfl)) ?_
                          refine RS.q rfl (QO.assign) ?_
                          refine RS.nil ?_
                          refine thenC_n ?_
                          refine CS.condF (by rfl) rfl ?_
                          refine CS.skip ?_
                          refine blockC_n ?_
                          refine thenC_n ?_
                          refine CS.seq ?_
                          refine CS.region ?_
                          refine RS.q rfl (QO.assign) ?_
                          refine RS.nil ?_
                          refine thenC_n ?_
                          refine CS.ret ?_
                          refine retQ.mk (H' := []) (.inr rfl) (RVs.tmp (by rfl) RVs.nil) (List.nil_sublist _) ?_
                          exact ⟨congrArg iv (by first | exact (codE_1 (Decidable.not_not.1 (of_decide_eq_false hb0p))).symm | exact (codE_3 hne (by omega)).symm | exact (codE_5 hne (by omega) (by refine ⟨?_, ?_, ?_, ?_⟩ <;> omega)).symm | exact (codE_0 hne (by omega) (by rintro ⟨a1, a2, a3, a4⟩; omega)).symm), rfl⟩
                      · have hb10p := of_decide_eq_false hb10
                        refine RS.off (dj := 58) rfl (.inl (congrArg Value.bool hb10)) (fun _ => rfl) rfl ?_
                        refine RS.off (dj := 58) rfl (.inl (congrArg Value.bool hb10)) (fun _ => rfl) rfl ?_
                        refine RS.off (dj := 58) rfl (.inl (congrArg Value.bool hb10)) (fun _ => rfl) rfl ?_
                        refine RS.q rfl (QO.pickF (by rfl) hb10 (by rfl)) ?_
                        refine RS.q rfl (QO.move) ?_
                        refine RS.off (dj := 63) rfl (.inl (congrArg Value.bool rfl)) (fun _ => rfl) rfl ?_
                        refine RS.off (dj := 63) rfl (.inl (congrArg Value.bool rfl)) (fun _ => rfl) rfl ?_
                        refine RS.off (dj := 63) rfl (.inl (congrArg Value.bool rfl)) (fun _ => rfl) rfl ?_
                        refine RS.off (dj := 63) rfl (.inl (congrArg Value.bool rfl)) (fun _ => rfl) rfl ?_
                        refine RS.q rfl (QO.pickF (by rfl) rfl (by rfl)) ?_
                        refine RS.q rfl (QO.assign) ?_
                        refine RS.nil ?_
                        refine thenC_n ?_
                        refine CS.condF (by rfl) rfl ?_
                        refine CS.skip ?_
                        refine blockC_n ?_
                        refine thenC_n ?_
                        refine CS.seq ?_
                        refine CS.region ?_
                        refine RS.q rfl (QO.assign) ?_
                        refine RS.nil ?_
                        refine thenC_n ?_
                        refine CS.ret ?_
                        refine retQ.mk (H' := []) (.inr rfl) (RVs.tmp (by rfl) RVs.nil) (List.nil_sublist _) ?_
                        exact ⟨congrArg iv (by first | exact (codE_1 (Decidable.not_not.1 (of_decide_eq_false hb0p))).symm | exact (codE_3 hne (by omega)).symm | exact (codE_5 hne (by omega) (by refine ⟨?_, ?_, ?_, ?_⟩ <;> omega)).symm | exact (codE_0 hne (by omega) (by rintro ⟨a1, a2, a3, a4⟩; omega)).symm), rfl⟩
                    · have hb9p := ne_of_beq_false hb9
                      refine RS.off (dj := 53) rfl (.inl (congrArg Value.bool hb9)) (fun _ => rfl) rfl ?_
                      refine RS.off (dj := 53) rfl (.inl (congrArg Value.bool hb9)) (fun _ => rfl) rfl ?_
                      refine RS.off (dj := 53) rfl (.inl (congrArg Value.bool hb9)) (fun _ => rfl) rfl ?_
                      refine RS.q rfl (QO.pickF (by rfl) hb9 (by rfl)) ?_
                      refine RS.q rfl (QO.move) ?_
                      refine RS.off (dj := 58) rfl (.inl (congrArg Value.bool rfl)) (fun _ => rfl) rfl ?_
                      refine RS.off (dj := 58) rfl (.inl (congrArg Value.bool rfl)) (fun _ => rfl) rfl ?_
                      refine RS.off (dj := 58) rfl (.inl (congrArg Value.bool rfl)) (fun _ => rfl) rfl ?_
                      refine RS.q rfl (QO.pickF (by rfl) rfl (by rfl)) ?_
                      refine RS.q rfl (QO.move) ?_
                      refine RS.off (dj := 63) rfl (.inl (congrArg Value.bool rfl)) (fun _ => rfl) rfl ?_
                      refine RS.off (dj := 63) rfl (.inl (congrArg Value.bool rfl)) (fun _ => rfl) rfl ?_
                      refine RS.off (dj := 63) rfl (.inl (congrArg Value.bool rfl)) (fun _ => rfl) rfl ?_
                      refine RS.off (dj := 63) rfl (.inl (congrArg Value.bool rfl)) (fun _ => rfl) rfl ?_
                      refine RS.q rfl (QO.pickF (by rfl) rfl (by rfl)) ?_
                      refine RS.q rfl (QO.assign) ?_
                      refine RS.nil ?_
                      refine thenC_n ?_
                      refine CS.condF (by rfl) rfl ?_
                      refine CS.skip ?_
                      refine blockC_n ?_
                      refine thenC_n ?_
                      refine CS.seq ?_
                      refine CS.region ?_
                      refine RS.q rfl (QO.assign) ?_
                      refine RS.nil ?_
                      refine thenC_n ?_
                      refine CS.ret ?_
                      refine retQ.mk (H' := []) (.inr rfl) (RVs.tmp (by rfl) RVs.nil) (List.nil_sublist _) ?_
                      exact ⟨congrArg iv (by first | exact (codE_1 (Decidable.not_not.1 (of_decide_eq_false hb0p))).symm | exact (codE_3 hne (by omega)).symm | exact (codE_5 hne (by omega) (by refine ⟨?_, ?_, ?_, ?_⟩ <;> omega)).symm | exact (codE_0 hne (by omega) (by rintro ⟨a1, a2, a3, a4⟩; omega)).symm), rfl⟩

end Go.Proofs.YtapcgokcfmklbaaDoor
