/-
  Part 5 of what the proof leans on (G6, Trk, G7, KBet). Conditions: as each theorem says.
-/
import Derived.Test.YtapcgokcfmklbaaY4
namespace Go.Proofs.Ytapcgokcfmklbaa
open Go Go.Proofs Go.RowKit

theorem ty67 : tyChk Try.prog 67 = some ([.int .i64 0, .int .i64 0, .int .i64 0, .float .f32 0, .float .f32 0, .float .f32 0, .float .f32 0, .float .f32 0, .slice none 0 0, .bool false], true, 80) := by kernel_rfl
theorem fo67_0 : fldOff Try.prog 67 0 = some (0, 3) := by kernel_rfl
theorem fo67_1 : fldOff Try.prog 67 1 = some (1, 3) := by kernel_rfl
theorem fo67_2 : fldOff Try.prog 67 2 = some (2, 61) := by kernel_rfl
theorem ok69 : callOK Try.prog 69 = true := by kernel_rfl
theorem ok74 : callOK Try.prog 74 = true := by kernel_rfl

theorem frN_0 {l : List KF} (h : l.length = 0) : frE l = 10 := if_pos h
theorem frN_1 {l : List KF} (h : ¬ l.length = 0) (h1 : 100 < l.length) : frE l = 4 := by unfold frE; rw [if_neg h, if_pos h1]
theorem bne_T {x y : Bool} (h : (x != y) = true) : x ≠ y := bne_iff_ne.1 h
theorem bne_F {x y : Bool} (h : (x != y) = false) : ¬ x ≠ y := fun h1 => h1 (of_bne_false h)

theorem endE {l : List KF} {i : Nat} {e : Int} (h0 : l.length ≤ 100) (h : firstE (frE1 l) i = 0) (hi : i < l.length) (h2 : frE1 l i = e) (h3 : e ≠ 0) : frE l = e := (frE_at h0 h hi (by rw [h2]; exact h3)).trans h2

set_option maxRecDepth 100000 in
theorem checkFrames (A : Option Addr) (c : Nat) (l : List KF) (W : World) (hA : KS W A l) (hm : l.length ≤ maxLen) : Fn_ Try.prog 25 #[.slice A l.length c] W (fun v H => v = iv (frE l) ∧ H = []) := by
  unfold maxLen at hm
  refine Fn_.intro Try.func25 rfl rfl (by rfl) ?_
  refine CS.seq ?_
  refine CS.region ?_
  refine RS.q rfl (QO.assign) ?_
  refine RS.nil ?_
  refine thenC_n ?_
  refine CS.seq ?_
  refine CS.seq ?_
  refine CS.region ?_
  refine RS.q rfl (QO.move) ?_
  refine RS.q rfl (QO.lenS Try.underlying57 (by rfl)) ?_
  refine RS.q rfl (QO.eql (by rfl) (by rfl)) ?_
  refine RS.nil ?_
  refine thenC_n ?_
  refine CS.cond (by rfl) (fun hb0 => ?_) (fun hb0 => ?_)
  · have hb0p := eq_of_beq hb0
    refine CS.seq ?_
    refine CS.region ?_
    refine RS.q rfl (QO.assign) ?_
    refine RS.nil ?_
    refine thenC_n ?_
    refine CS.ret ?_
    refine thenC_r ?_
    refine retQ.mk (H' := []) (.inr rfl) (RVs.tmp (by rfl) RVs.nil) (List.nil_sublist _) ?_
    exact ⟨congrArg iv (frN_0 (by omega)).symm, rfl⟩
  have hb0p := ne_of_beq_false hb0
  refine CS.skip ?_
  refine thenC_n ?_
  refine CS.seq ?_
  refine CS.seq ?_
  refine CS.region ?_
  refine RS.q rfl (QO.move) ?_
  refine RS.q rfl (QO.lenS Try.underlying57 (by rfl)) ?_
  refine RS.q rfl (QO.gtr (by rfl) (by rfl)) ?_
  refine RS.nil ?_
  refine thenC_n ?_
  refine CS.cond (by rfl) (fun hb1 => ?_) (fun hb1 => ?_)
  · have hb1p := of_decide_eq_true hb1
    refine CS.seq ?_
    refine CS.region ?_
    refine RS.q rfl (QO.assign) ?_
    refine RS.nil ?_
    refine thenC_n ?_
    refine CS.ret ?_
    refine thenC_r ?_
    refine retQ.mk (H' := []) (.inr rfl) (RVs.tmp (by rfl) RVs.nil) (List.nil_sublist _) ?_
    exact ⟨congrArg iv (frN_1 (by omega) (by omega)).symm, rfl⟩
  have hb1p := of_decide_eq_false hb1
  refine CS.skip ?_
  refine thenC_n ?_
  refine CS.seq ?_
  refine CS.seq ?_
  refine CS.region ?_
  refine RS.q rfl (QO.move) ?_
  refine RS.q rfl (QO.lenS Try.underlying57 (by rfl)) ?_
  refine RS.q rfl (QO.move) ?_
  refine RS.nil ?_
  refine thenC_n ?_
  refine CS.block ?_
  refine CS.loop (X := Nat) (2 :: 3 :: 4 :: 5 :: 6 :: 15 :: 16 :: 17 :: 18 :: 19 :: 20 :: 21 :: 22 :: 23 :: 24 :: 25 :: 26 :: 27 :: 28 :: 29 :: 30 :: 31 :: 32 :: 33 :: 34 :: 35 :: 36 :: 37 :: 38 :: 39 :: 40 :: 41 :: 42 :: 43 :: 44 :: 45 :: 46 :: 47 :: 48 :: 49 :: 50 :: 51 :: 52 :: 53 :: 54 :: 55 :: 56 :: 57 :: 58 :: 59 :: 60 :: 61 :: 62 :: 63 :: 64 :: 65 :: 66 :: 67 :: 68 :: 69 :: 70 :: 71 :: 72 :: 73 :: 74 :: 75 :: 76 :: 77 :: 78 :: 79 :: 80 :: 81 :: 82 :: 83 :: []) (fun k => [(15, iv (k : Int))]) (fun k => []) (fun k => k ≤ l.length ∧ firstE (frE1 l) k = 0) (fun k => l.length - k) 0 ⟨Nat.zero_le _, rfl⟩ ?_ ?_ ?_
  · exact (by repeat (first | exact kn_nil | refine kn_cons (by rfl) ?_))
  · exact (by repeat (first | exact List.Sublist.refl _ | exact List.nil_sublist _ | refine List.Sublist.cons_cons _ ?_ | refine List.Sublist.cons _ ?_ | exact Sbp.refl | exact Sbp.nil | refine Sbp.cons (by repeat (first | exact Rem.head | apply Rem.tail)) ?_ | exact Sbp.app | refine Sbp.skip ?_))
  intro k gj6 hz
  obtain ⟨hk, hz⟩ := hz
  refine CS.seq ?_
  refine CS.region ?_
  refine RS.q rfl (QO.lss (by rfl) (by rfl)) ?_
  refine RS.nil ?_
  refine thenC_n ?_
  refine CS.seq ?_
  refine CS.cond (by rfl) (fun hb2 => ?_) (fun hb2 => ?_)
  · have hb2p := of_decide_eq_true hb2
    refine CS.skip ?_
    refine thenC_n ?_
    refine CS.seq ?_
    refine CS.block ?_
    refine CS.seq ?_
    refine CS.region ?_
    obtain ⟨bA, oA, e1⟩ := hA.isS (show 0 < l.length by omega)
    subst e1
    obtain ⟨kf, hkf⟩ : ∃ kf, l.getD k default = kf := ⟨_, rfl⟩
    obtain ⟨ka, hka⟩ : ∃ ka, (l.getD 0 default).win = ka := ⟨_, rfl⟩
    have hd := hA.whole (i := k) (show k < l.length by omega) (q := oA + (k : Int).toNat * 10) (by rw [Int.toNat_natCast])
    have hok := hA.ok (i := k) (show k < l.length by omega)
    rw [hkf] at hd hok
    have hd0 := hA.win (i := 0) (show 0 < l.length by omega) (q := oA + (0 : Int).toNat * 10 + 2) rfl
    rw [hka] at hd0
    refine RS.q rfl (QO.move) ?_
    refine RS.q rfl (QO.idx Try.underlying57 ty67 (by rfl) (by rfl) (by omega) (by omega)) ?_
    refine RS.q rfl (QO.loadOA ty67 (vs := kfC kf) (by rfl) hd (by rfl)) ?_
    refine RS.alloc rfl ty67 ?_
    intro g4
    refine RS.q rfl (QO.assign) ?_
    refine RS.storeB ty67 (by rfl) (by rfl) (by rfl) (by rfl) (by rfl) (by repeat (first | exact Upd.head | apply Upd.tail)) (by rfl) ?_
    refine RS.nil ?_
    refine thenC_n ?_
    refine CS.seq ?_
    refine CS.seq ?_
    refine CS.region ?_
    refine RS.q rfl (QO.fieldAddr fo67_0 (by rfl)) ?_
    refine RS.q rfl (QO.load ty3 (by rfl) (by repeat (first | exact List.Mem.head _ | refine List.Mem.tail _ ?_)) (by rfl)) ?_
    refine RS.q rfl (QO.lss (by rfl) (by rfl)) ?_
    refine RS.q rfl (QO.move) ?_
    refine RS.split (dj := 23) (by rfl) (fun hb3 => ?_) (fun hb3 => ?_)
    · have hb3p := of_decide_eq_true hb3
      refine RS.off (dj := 23) rfl (.inl (congrArg Value.bool hb3)) (fun _ => rfl) rfl ?_
      refine RS.off (dj := 23) rfl (.inl (congrArg Value.bool hb3)) (fun _ => rfl) rfl ?_
      refine RS.off (dj := 23) rfl (.inl (congrArg Value.bool hb3)) (fun _ => rfl) rfl ?_
      refine RS.q rfl (QO.pickT (by rfl) hb3 (by rfl)) ?_
      refine RS.nil ?_
      refine thenC_n ?_
      refine CS.condT (by rfl) rfl ?_
      refine CS.seq ?_
      refine CS.region ?_
      refine RS.q rfl (QO.assign) ?_
      refine RS.nil ?_
      refine thenC_n ?_
      refine CS.ret ?_
      refine thenC_r ?_
      refine blockC_r ?_
      refine thenC_r ?_
      refine loopQ_r ?_
      refine blockC_r ?_
      refine thenC_r ?_
      refine retQ.mk (H' := []) (.inr rfl) (RVs.tmp (by rfl) RVs.nil) (List.nil_sublist _) ?_
      exact ⟨congrArg iv (endE (by omega) hz (by omega) (frE1_1 hkf (by omega)) (by omega)).symm, rfl⟩
    have hb3p := of_decide_eq_false hb3
    refine RS.on (dj := 23) rfl (congrArg Value.bool hb3) ?_
    refine RS.q rfl (QO.fieldAddr fo67_0 (by rfl)) ?_
    refine RS.on (dj := 23) rfl (congrArg Value.bool hb3) ?_
    refine RS.q rfl (QO.load ty3 (by rfl) (by repeat (first | exact List.Mem.head _ | refine List.Mem.tail _ ?_)) (by rfl)) ?_
    refine RS.on (dj := 23) rfl (congrArg Value.bool hb3) ?_
    refine RS.q rfl (QO.gtr (by rfl) (by rfl)) ?_
    refine RS.q rfl (QO.pickF (by rfl) hb3 (by rfl)) ?_
    refine RS.nil ?_
    refine thenC_n ?_
    refine CS.cond (by rfl) (fun hb4 => ?_) (fun hb4 => ?_)
    · have hb4p := of_decide_eq_true hb4
      refine CS.seq ?_
      refine CS.region ?_
      refine RS.q rfl (QO.assign) ?_
      refine RS.nil ?_
      refine thenC_n ?_
      refine CS.ret ?_
      refine thenC_r ?_
      refine blockC_r ?_
      refine thenC_r ?_
      refine loopQ_r ?_
      refine blockC_r ?_
      refine thenC_r ?_
      refine retQ.mk (H' := []) (.inr rfl) (RVs.tmp (by rfl) RVs.nil) (List.nil_sublist _) ?_
      exact ⟨congrArg iv (endE (by omega) hz (by omega) (frE1_1 hkf (by omega)) (by omega)).symm, rfl⟩
    have hb4p := of_decide_eq_false hb4
    refine CS.skip ?_
    refine thenC_n ?_
    refine CS.seq ?_
    refine CS.seq ?_
    refine CS.region ?_
    refine RS.q rfl (QO.fieldAddr fo67_1 (by rfl)) ?_
    refine RS.q rfl (QO.load ty3 (by rfl) (by repeat (first | exact List.Mem.head _ | refine List.Mem.tail _ ?_)) (by rfl)) ?_
    refine RS.q rfl (QO.lss (by rfl) (by rfl)) ?_
    refine RS.q rfl (QO.move) ?_
    refine RS.split (dj := 31) (by rfl) (fun hb5 => ?_) (fun hb5 => ?_)
    · have hb5p := of_decide_eq_true hb5
      refine RS.off (dj := 31) rfl (.inl (congrArg Value.bool hb5)) (fun _ => rfl) rfl ?_
      refine RS.off (dj := 31) rfl (.inl (congrArg Value.bool hb5)) (fun _ => rfl) rfl ?_
      refine RS.off (dj := 31) rfl (.inl (congrArg Value.bool hb5)) (fun _ => rfl) rfl ?_
      refine RS.q rfl (QO.pickT (by rfl) hb5 (by rfl)) ?_
      refine RS.nil ?_
      refine thenC_n ?_
      refine CS.condT (by rfl) rfl ?_
      refine CS.seq ?_
      refine CS.region ?_
      refine RS.q rfl (QO.assign) ?_
      refine RS.nil ?_
      refine thenC_n ?_
      refine CS.ret ?_
      refine thenC_r ?_
      refine blockC_r ?_
      refine thenC_r ?_
      refine loopQ_r ?_
      refine blockC_r ?_
      refine thenC_r ?_
      refine retQ.mk (H' := []) (.inr rfl) (RVs.tmp (by rfl) RVs.nil) (List.nil_sublist _) ?_
      exact ⟨congrArg iv (endE (by omega) hz (by omega) (frE1_2 hkf (by omega) (by omega)) (by omega)).symm, rfl⟩
    have hb5p := of_decide_eq_false hb5
    refine RS.on (dj := 31) rfl (congrArg Value.bool hb5) ?_
    refine RS.q rfl (QO.fieldAddr fo67_1 (by rfl)) ?_
    refine RS.on (dj := 31) rfl (congrArg Value.bool hb5) ?_
    refine RS.q rfl (QO.load ty3 (by rfl) (by repeat (first | exact List.Mem.head _ | refine List.Mem.tail _ ?_)) (by rfl)) ?_
    refine RS.on (dj := 31) rfl (congrArg Value.bool hb5) ?_
    refine RS.q rfl (QO.gtr (by rfl) (by rfl)) ?_
    refine RS.q rfl (QO.pickF (by rfl) hb5 (by rfl)) ?_
    refine RS.nil ?_
    refine thenC_n ?_
    refine CS.cond (by rfl) (fun hb6 => ?_) (fun hb6 => ?_)
    · have hb6p := of_decide_eq_true hb6
      refine CS.seq ?_
      refine CS.region ?_
      refine RS.q rfl (QO.assign) ?_
      refine RS.nil ?_
      refine thenC_n ?_
      refine CS.ret ?_
      refine thenC_r ?_
      refine blockC_r ?_
      refine thenC_r ?_
      refine loopQ_r ?_
      refine blockC_r ?_
      refine thenC_r ?_
      refine retQ.mk (H' := []) (.inr rfl) (RVs.tmp (by rfl) RVs.nil) (List.nil_sublist _) ?_
      exact ⟨congrArg iv (endE (by omega) hz (by omega) (frE1_2 hkf (by omega) (by omega)) (by omega)).symm, rfl⟩
    have hb6p := of_decide_eq_false hb6
    refine CS.skip ?_
    refine thenC_n ?_
    refine CS.seq ?_
    refine CS.seq ?_
    refine CS.region ?_
    refine RS.q rfl (QO.fieldAddr fo67_2 (by rfl)) ?_
    refine RS.q rfl (QO.loadA ty61 (by rfl) (by repeat (first | exact List.Mem.head _ | refine List.Mem.tail _ ?_)) (by rfl) (by rfl)) ?_
    refine RS.call rfl (by rfl) ok74 (by rfl) (fun w ho => checkWindow kf.win kf.A kf.c _ (hok.1.own ho) hok.2) ?_
    rintro _ _ ⟨rfl, rfl⟩
    refine RS.q rfl (QO.assign) ?_
    refine RS.nil ?_
    refine thenC_n ?_
    refine CS.seq ?_
    refine CS.region ?_
    refine RS.q rfl (QO.move) ?_
    refine RS.q rfl (QO.neq (by rfl) (by rfl)) ?_
    refine RS.nil ?_
    refine thenC_n ?_
    refine CS.cond (by rfl) (fun hb7 => ?_) (fun hb7 => ?_)
    · have hb7p := bne_iff_ne.1 hb7
      refine CS.seq ?_
      refine CS.region ?_
      refine RS.q rfl (QO.move) ?_
      refine RS.q rfl (QO.assign) ?_
      refine RS.nil ?_
      refine thenC_n ?_
      refine CS.ret ?_
      refine thenC_r ?_
      refine blockC_r ?_
      refine thenC_r ?_
      refine loopQ_r ?_
      refine blockC_r ?_
      refine thenC_r ?_
      refine retQ.mk (H' := []) (.inr rfl) (RVs.tmp (by rfl) RVs.nil) (List.nil_sublist _) ?_
      exact ⟨congrArg iv (endE (by omega) hz (by omega) (frE1_3 hkf (by omega) (by omega) (by omega)) (by omega)).symm, rfl⟩
    have hb7p := of_bne_false hb7
    refine CS.skip ?_
    refine thenC_n ?_
    refine CS.seq ?_
    refine CS.seq ?_
    refine CS.draw 13 rfl (by kernel_rfl) (by kernel_rfl) ?_
    refine RT.take (i := 0) rfl (by kernel_rfl) rfl (QO.move) ?_
    refine RT.take (i := 1) rfl (by kernel_rfl) rfl (QO.gtr (by rfl) (by rfl)) ?_
    refine RT.take (i := 2) rfl (by kernel_rfl) rfl (QO.move) ?_
    refine RT.split (dj := 44) (by rfl) (fun hb8 => ?_) (fun hb8 => ?_)
    · have hb8p := of_decide_eq_true hb8
      refine RT.takeOn (i := 3) (dj := 44) rfl rfl (congrArg Value.bool hb8) (by kernel_rfl) rfl (QO.fieldAddr fo67_0 (by rfl)) ?_
      refine RT.takeOn (i := 4) (dj := 44) rfl rfl (congrArg Value.bool hb8) (by kernel_rfl) rfl (QO.load ty3 (by rfl) (by repeat (first | exact List.Mem.head _ | refine List.Mem.tail _ ?_)) (by rfl)) ?_
      refine RT.takeOn (i := 5) (dj := 44) rfl rfl (congrArg Value.bool hb8) (by kernel_rfl) rfl (QO.move) ?_
      refine RT.takeOn (i := 6) (dj := 44) rfl rfl (congrArg Value.bool hb8) (by kernel_rfl) rfl (QO.move) ?_
      refine RT.takeOn (i := 7) (dj := 44) rfl rfl (congrArg Value.bool hb8) (by kernel_rfl) rfl (QO.sub (by rfl) (by rfl) (by omega) (by omega)) ?_
      have hp0 := hA.frame (i := k - 1) (show k - 1 < l.length by omega) (q := oA + ((k : Int) - 1).toNat * 10 + 0) (by omega)
      refine RT.takeOn (i := 8) (dj := 44) rfl rfl (congrArg Value.bool hb8) (by kernel_rfl) rfl (QO.idx Try.underlying57 ty67 (by rfl) (by rfl) (by omega) (by omega)) ?_
      refine RT.takeOn (i := 9) (dj := 44) rfl rfl (congrArg Value.bool hb8) (by kernel_rfl) rfl (QO.fieldAddr fo67_0 (by rfl)) ?_
      refine RT.takeOn (i := 10) (dj := 44) rfl rfl (congrArg Value.bool hb8) (by kernel_rfl) rfl (QO.loadO ty3 (by rfl) hp0) ?_
      refine RT.takeOn (i := 11) (dj := 44) rfl rfl (congrArg Value.bool hb8) (by kernel_rfl) rfl (QO.leq (by rfl) (by rfl)) ?_
      refine RT.take (i := 12) rfl (by kernel_rfl) rfl (QO.pickT (by rfl) hb8 (by rfl)) ?_
      refine RT.done (by kernel_rfl) ?_
      refine thenC_n ?_
      refine CS.cond (by rfl) (fun hb9 => ?_) (fun hb9 => ?_)
      · have hb9p := of_decide_eq_true hb9
        refine CS.seq ?_
        refine CS.region ?_
        refine RS.q rfl (QO.assign) ?_
        refine RS.nil ?_
        refine thenC_n ?_
        refine CS.ret ?_
        refine thenC_r ?_
        refine blockC_r ?_
        refine thenC_r ?_
        refine loopQ_r ?_
        refine blockC_r ?_
        refine thenC_r ?_
        refine retQ.mk (H' := []) (.inr rfl) (RVs.tmp (by rfl) RVs.nil) (List.nil_sublist _) ?_
        exact ⟨congrArg iv (endE (by omega) hz (by omega) (frE1_4 hkf (by omega) (by omega) (by omega) (by omega) rfl (by omega)) (by omega)).symm, rfl⟩
      have hb9p := of_decide_eq_false hb9
      refine CS.skip ?_
      refine thenC_n ?_
      refine CS.seq ?_
      refine CS.region ?_
      refine RS.q rfl (QO.move) ?_
      refine RS.q rfl (QO.idx Try.underlying57 ty67 (by rfl) (by rfl) (by omega) (by omega)) ?_
      refine RS.q rfl (QO.fieldAddr fo67_2 (by rfl)) ?_
      refine RS.q rfl (QO.loadOA ty61 (vs := winC ka (l.getD 0 default).A (l.getD 0 default).c) (by rfl) hd0 (by rfl)) ?_
      refine RS.alloc rfl ty61 ?_
      intro g6
      refine RS.storeB ty61 (by rfl) (by rfl) (by rfl) (by rfl) (by rfl) (by repeat (first | exact Upd.head | apply Upd.tail)) (by rfl) ?_
      refine RS.nil ?_
      refine thenC_n ?_
      refine CS.seq ?_
      refine CS.region ?_
      refine RS.q rfl (QO.fieldAddr fo67_2 (by rfl)) ?_
      refine RS.q rfl (QO.fieldAddr fo61_0 (by rfl)) ?_
      refine RS.q rfl (QO.load ty3 (by rfl) (by repeat (first | exact List.Mem.head _ | refine List.Mem.tail _ ?_)) (by rfl)) ?_
      refine RS.q rfl (QO.fieldAddr fo61_0 (by rfl)) ?_
      refine RS.q rfl (QO.load ty3 (by rfl) (by repeat (first | exact List.Mem.head _ | refine List.Mem.tail _ ?_)) (by rfl)) ?_
      refine RS.q rfl (QO.neq (by rfl) (by rfl)) ?_
      refine RS.q rfl (QO.move) ?_
      refine RS.split (dj := 65) (by rfl) (fun hb10 => ?_) (fun hb10 => ?_)
      · have hb10p := bne_iff_ne.1 hb10
        refine RS.off (dj := 65) rfl (.inl (congrArg Value.bool hb10)) (fun _ => rfl) rfl ?_
        refine RS.off (dj := 65) rfl (.inl (congrArg Value.bool hb10)) (fun _ => rfl) rfl ?_
        refine RS.off (dj := 65) rfl (.inl (congrArg Value.bool hb10)) (fun _ => rfl) rfl ?_
        refine RS.off (dj := 65) rfl (.inl (congrArg Value.bool hb10)) (fun _ => rfl) rfl ?_
        refine RS.off (dj := 65) rfl (.inl (congrArg Value.bool hb10)) (fun _ => rfl) rfl ?_
        refine RS.off (dj := 65) rfl (.inl (congrArg Value.bool hb10)) (fun _ => rfl) rfl ?_
        refine RS.q rfl (QO.pickT (by rfl) hb10 (by rfl)) ?_
        refine RS.q rfl (QO.move) ?_
        refine RS.off (dj := 73) rfl (.inl (congrArg Value.bool rfl)) (fun _ => rfl) rfl ?_
        refine RS.off (dj := 73) rfl (.inl (congrArg Value.bool rfl)) (fun _ => rfl) rfl ?_
        refine RS.off (dj := 73) rfl (.inl (congrArg Value.bool rfl)) (fun _ => rfl) rfl ?_
        refine RS.off (dj := 73) rfl (.inl (congrArg Value.bool rfl)) (fun _ => rfl) rfl ?_
        refine RS.off (dj := 73) rfl (.inl (congrArg Value.bool rfl)) (fun _ => rfl) rfl ?_
        refine RS.off (dj := 73) rfl (.inl (congrArg Value.bool rfl)) (fun _ => rfl) rfl ?_
        refine RS.off (dj := 73) rfl (.inl (congrArg Value.bool rfl)) (fun _ => rfl) rfl ?_
        refine RS.off (dj := 73) rfl (.inl (congrArg Value.bool rfl)) (fun _ => rfl) rfl ?_
        refine RS.q rfl (QO.pickT (by rfl) rfl (by rfl)) ?_
        refine RS.nil ?_
        refine thenC_n ?_
        refine CS.condT (by rfl) rfl ?_
        refine CS.seq ?_
        refine CS.region ?_
        refine RS.q rfl (QO.assign) ?_
        refine RS.nil ?_
        refine thenC_n ?_
        refine CS.ret ?_
        refine blockC_r ?_
        refine thenC_r ?_
        refine loopQ_r ?_
        refine blockC_r ?_
        refine thenC_r ?_
        refine retQ.mk (H' := []) (.inr rfl) (RVs.tmp (by rfl) RVs.nil) (List.nil_sublist _) ?_
        exact ⟨congrArg iv (endE (by omega) hz (by omega) (frE1_5 hkf hka (by omega) (by omega) (by omega) (by omega) (.inl (by omega))) (by omega)).symm, rfl⟩
      have hb10p := of_bne_false hb10
      refine RS.on (dj := 65) rfl (congrArg Value.bool hb10) ?_
      refine RS.q rfl (QO.fieldAddr fo67_2 (by rfl)) ?_
      refine RS.on (dj := 65) rfl (congrArg Value.bool hb10) ?_
      refine RS.q rfl (QO.fieldAddr fo61_7 (by rfl)) ?_
      refine RS.on (dj := 65) rfl (congrArg Value.bool hb10) ?_
      refine RS.q rfl (QO.load ty4 (by rfl) (by repeat (first | exact List.Mem.head _ | refine List.Mem.tail _ ?_)) (by rfl)) ?_
      refine RS.on (dj := 65) rfl (congrArg Value.bool hb10) ?_
      refine RS.q rfl (QO.fieldAddr fo61_7 (by rfl)) ?_
      refine RS.on (dj := 65) rfl (congrArg Value.bool hb10) ?_
      refine RS.q rfl (QO.load ty4 (by rfl) (by repeat (first | exact List.Mem.head _ | refine List.Mem.tail _ ?_)) (by rfl)) ?_
      refine RS.on (dj := 65) rfl (congrArg Value.bool hb10) ?_
      refine RS.q rfl (QO.bneq Try.underlying4 (by rfl) (by rfl)) ?_
      refine RS.q rfl (QO.pickF (by rfl) hb10 (by rfl)) ?_
      refine RS.q rfl (QO.move) ?_
      refine RS.split (dj := 73) (by rfl) (fun hb11 => ?_) (fun hb11 => ?_)
      · refine RS.off (dj := 73) rfl (.inl (congrArg Value.bool hb11)) (fun _ => rfl) rfl ?_
        refine RS.off (dj := 73) rfl (.inl (congrArg Value.bool hb11)) (fun _ => rfl) rfl ?_
        refine RS.off (dj := 73) rfl (.inl (congrArg Value.bool hb11)) (fun _ => rfl) rfl ?_
        refine RS.off (dj := 73) rfl (.inl (congrArg Value.bool hb11)) (fun _ => rfl) rfl ?_
        refine RS.off (dj := 73) rfl (.inl (congrArg Value.bool hb11)) (fun _ => rfl) rfl ?_
        refine RS.off (dj := 73) rfl (.inl (congrArg Value.bool hb11)) (fun _ => rfl) rfl ?_
        refine RS.off (dj := 73) rfl (.inl (congrArg Value.bool hb11)) (fun _ => rfl) rfl ?_
        refine RS.off (dj := 73) rfl (.inl (congrArg Value.bool hb11)) (fun _ => rfl) rfl ?_
        refine RS.q rfl (QO.pickT (by rfl) hb11 (by rfl)) ?_
        refine RS.nil ?_
        refine thenC_n ?_
        refine CS.condT (by rfl) rfl ?_
        refine CS.seq ?_
        refine CS.region ?_
        refine RS.q rfl (QO.assign) ?_
        refine RS.nil ?_
        refine thenC_n ?_
        refine CS.ret ?_
        refine blockC_r ?_
        refine thenC_r ?_
        refine loopQ_r ?_
        refine blockC_r ?_
        refine thenC_r ?_
        refine retQ.mk (H' := []) (.inr rfl) (RVs.tmp (by rfl) RVs.nil) (List.nil_sublist _) ?_
        exact ⟨congrArg iv (endE (by omega) hz (by omega) (frE1_5 hkf hka (by omega) (by omega) (by omega) (by omega) (.inr (.inl (bne_T (by assumption))))) (by omega)).symm, rfl⟩
      refine RS.on (dj := 73) rfl (congrArg Value.bool hb11) ?_
      refine RS.q rfl (QO.fieldAddr fo67_2 (by rfl)) ?_
      refine RS.on (dj := 73) rfl (congrArg Value.bool hb11) ?_
      refine RS.q rfl (QO.fieldAddr fo61_6 (by rfl)) ?_
      refine RS.on (dj := 73) rfl (congrArg Value.bool hb11) ?_
      refine RS.q rfl (QO.load ty59 (by rfl) (by repeat (first | exact List.Mem.head _ | refine List.Mem.tail _ ?_)) (by rfl)) ?_
      refine RS.on (dj := 73) rfl (congrArg Value.bool hb11) ?_
      refine RS.q rfl (QO.lenS Try.underlying59 (by rfl)) ?_
      refine RS.on (dj := 73) rfl (congrArg Value.bool hb11) ?_
      refine RS.q rfl (QO.fieldAddr fo61_6 (by rfl)) ?_
      refine RS.on (dj := 73) rfl (congrArg Value.bool hb11) ?_
      refine RS.q rfl (QO.load ty59 (by rfl) (by repeat (first | exact List.Mem.head _ | refine List.Mem.tail _ ?_)) (by rfl)) ?_
      refine RS.on (dj := 73) rfl (congrArg Value.bool hb11) ?_
      refine RS.q rfl (QO.lenS Try.underlying59 (by rfl)) ?_
      refine RS.on (dj := 73) rfl (congrArg Value.bool hb11) ?_
      refine RS.q rfl (QO.neq (by rfl) (by rfl)) ?_
      refine RS.q rfl (QO.pickF (by rfl) hb11 (by rfl)) ?_
      refine RS.nil ?_
      refine thenC_n ?_
      refine CS.cond (by rfl) (fun hb12 => ?_) (fun hb12 => ?_)
      · have hb12p := bne_iff_ne.1 hb12
        refine CS.seq ?_
        refine CS.region ?_
        refine RS.q rfl (QO.assign) ?_
        refine RS.nil ?_
        refine thenC_n ?_
        refine CS.ret ?_
        refine blockC_r ?_
        refine thenC_r ?_
        refine loopQ_r ?_
        refine blockC_r ?_
        refine thenC_r ?_
        refine retQ.mk (H' := []) (.inr rfl) (RVs.tmp (by rfl) RVs.nil) (List.nil_sublist _) ?_
        exact ⟨congrArg iv (endE (by omega) hz (by omega) (frE1_5 hkf hka (by omega) (by omega) (by omega) (by omega) (.inr (.inr (by omega)))) (by omega)).symm, rfl⟩
      have hb12p := of_bne_false hb12
      refine CS.skip ?_
      refine blockC_n ?_
      refine thenC_n ?_
      refine CS.region ?_
      refine RS.q rfl (QO.add (by rfl) (by rfl) (by omega) (by omega)) ?_
      refine RS.q rfl (QO.move) ?_
      refine RS.nil ?_
      refine loopQ_n (by intro t ht; repeat (first | with_reducible exact rfl | exact frame_puts ht (frame_mix ht) _ rfl | (refine frame_put rfl ht ?_) | (refine frame_puts ht ?_ _ rfl) | exact frame_mix ht | (refine frame_mix2 rfl ht ?_) | exact rfl)) ?_
      exact ⟨k + 1, ⟨by omega, firstE_suc hz (frE1_0 hkf hka (by omega) (by omega) (by omega) (by omega) (no3 (by omega) (bne_F (by assumption)) (by omega)))⟩, by omega, (by repeat (first | exact kn_nil | refine kn_cons (by rfl) ?_)), (by repeat (first | exact List.Sublist.refl _ | exact List.nil_sublist _ | refine List.Sublist.cons_cons _ ?_ | refine List.Sublist.cons _ ?_ | exact Sbp.refl | exact Sbp.nil | refine Sbp.cons (by repeat (first | exact Rem.head | apply Rem.tail)) ?_ | exact Sbp.app | refine Sbp.skip ?_))⟩
    have hb8p := of_decide_eq_false hb8
    refine RT.takeOff (i := 3) (dj := 44) rfl rfl (.inl (congrArg Value.bool hb8)) (fun _ => rfl) (by kernel_rfl) rfl ?_
    refine RT.takeOff (i := 4) (dj := 44) rfl rfl (.inl (congrArg Value.bool hb8)) (fun _ => rfl) (by kernel_rfl) rfl ?_
    refine RT.takeOff (i := 5) (dj := 44) rfl rfl (.inl (congrArg Value.bool hb8)) (fun _ => rfl) (by kernel_rfl) rfl ?_
    refine RT.takeOff (i := 6) (dj := 44) rfl rfl (.inl (congrArg Value.bool hb8)) (fun _ => rfl) (by kernel_rfl) rfl ?_
    refine RT.takeOff (i := 7) (dj := 44) rfl rfl (.inl (congrArg Value.bool hb8)) (fun _ => rfl) (by kernel_rfl) rfl ?_
    refine RT.takeOff (i := 8) (dj := 44) rfl rfl (.inl (congrArg Value.bool hb8)) (fun _ => rfl) (by kernel_rfl) rfl ?_
    refine RT.takeOff (i := 9) (dj := 44) rfl rfl (.inl (congrArg Value.bool hb8)) (fun _ => rfl) (by kernel_rfl) rfl ?_
    refine RT.takeOff (i := 10) (dj := 44) rfl rfl (.inl (congrArg Value.bool hb8)) (fun _ => rfl) (by kernel_rfl) rfl ?_
    refine RT.takeOff (i := 11) (dj := 44) rfl rfl (.inl (congrArg Value.bool hb8)) (fun _ => rfl) (by kernel_rfl) rfl ?_
    refine RT.take (i := 12) rfl (by kernel_rfl) rfl (QO.pickF (by rfl) hb8 (by rfl)) ?_
    refine RT.done (by kernel_rfl) ?_
    refine thenC_n ?_
    refine CS.condF (by rfl) rfl ?_
    refine CS.skip ?_
    refine thenC_n ?_
    refine CS.seq ?_
    refine CS.region ?_
    refine RS.q rfl (QO.move) ?_
    refine RS.q rfl (QO.idx Try.underlying57 ty67 (by rfl) (by rfl) (by omega) (by omega)) ?_
    refine RS.q rfl (QO.fieldAddr fo67_2 (by rfl)) ?_
    refine RS.q rfl (QO.loadOA ty61 (vs := winC ka (l.getD 0 default).A (l.getD 0 default).c) (by rfl) hd0 (by rfl)) ?_
    refine RS.alloc rfl ty61 ?_
    intro g6
    refine RS.storeB ty61 (by rfl) (by rfl) (by rfl) (by rfl) (by rfl) (by repeat (first | exact Upd.head | apply Upd.tail)) (by rfl) ?_
    refine RS.nil ?_
    refine thenC_n ?_
    refine CS.seq ?_
    refine CS.region ?_
    refine RS.q rfl (QO.fieldAddr fo67_2 (by rfl)) ?_
    refine RS.q rfl (QO.fieldAddr fo61_0 (by rfl)) ?_
    refine RS.q rfl (QO.load ty3 (by rfl) (by repeat (first | exact List.Mem.head _ | refine List.Mem.tail _ ?_)) (by rfl)) ?_
    refine RS.q rfl (QO.fieldAddr fo61_0 (by rfl)) ?_
    refine RS.q rfl (QO.load ty3 (by rfl) (by repeat (first | exact List.Mem.head _ | refine List.Mem.tail _ ?_)) (by rfl)) ?_
    refine RS.q rfl (QO.neq (by rfl) (by rfl)) ?_
    refine RS.q rfl (QO.move) ?_
    refine RS.split (dj := 65) (by rfl) (fun hb13 => ?_) (fun hb13 => ?_)
    · have hb13p := bne_iff_ne.1 hb13
      refine RS.off (dj := 65) rfl (.inl (congrArg Value.bool hb13)) (fun _ => rfl) rfl ?_
      refine RS.off (dj := 65) rfl (.inl (congrArg Value.bool hb13)) (fun _ => rfl) rfl ?_
      refine RS.off (dj := 65) rfl (.inl (congrArg Value.bool hb13)) (fun _ => rfl) rfl ?_
      refine RS.off (dj := 65) rfl (.inl (congrArg Value.bool hb13)) (fun _ => rfl) rfl ?_
      refine RS.off (dj := 65) rfl (.inl (congrArg Value.bool hb13)) (fun _ => rfl) rfl ?_
      refine RS.off (dj := 65) rfl (.inl (congrArg Value.bool hb13)) (fun _ => rfl) rfl ?_
      refine RS.q rfl (QO.pickT (by rfl) hb13 (by rfl)) ?_
      refine RS.q rfl (QO.move) ?_
      refine RS.off (dj := 73) rfl (.inl (congrArg Value.bool rfl)) (fun _ => rfl) rfl ?_
      refine RS.off (dj := 73) rfl (.inl (congrArg Value.bool rfl)) (fun _ => rfl) rfl ?_
      refine RS.off (dj := 73) rfl (.inl (congrArg Value.bool rfl)) (fun _ => rfl) rfl ?_
      refine RS.off (dj := 73) rfl (.inl (congrArg Value.bool rfl)) (fun _ => rfl) rfl ?_
      refine RS.off (dj := 73) rfl (.inl (congrArg Value.bool rfl)) (fun _ => rfl) rfl ?_
      refine RS.off (dj := 73) rfl (.inl (congrArg Value.bool rfl)) (fun _ => rfl) rfl ?_
      refine RS.off (dj := 73) rfl (.inl (congrArg Value.bool rfl)) (fun _ => rfl) rfl ?_
      refine RS.off (dj := 73) rfl (.inl (congrArg Value.bool rfl)) (fun _ => rfl) rfl ?_
      refine RS.q rfl (QO.pickT (by rfl) rfl (by rfl)) ?_
      refine RS.nil ?_
      refine thenC_n ?_
      refine CS.condT (by rfl) rfl ?_
      refine CS.seq ?_
      refine CS.region ?_
      refine RS.q rfl (QO.assign) ?_
      refine RS.nil ?_
      refine thenC_n ?_
      refine CS.ret ?_
      refine blockC_r ?_
      refine thenC_r ?_
      refine loopQ_r ?_
      refine blockC_r ?_
      refine thenC_r ?_
      refine retQ.mk (H' := []) (.inr rfl) (RVs.tmp (by rfl) RVs.nil) (List.nil_sublist _) ?_
      exact ⟨congrArg iv (endE (by omega) hz (by omega) (frE1_5 hkf hka (by omega) (by omega) (by omega) (by omega) (.inl (by omega))) (by omega)).symm, rfl⟩
    have hb13p := of_bne_false hb13
    refine RS.on (dj := 65) rfl (congrArg Value.bool hb13) ?_
    refine RS.q rfl (QO.fieldAddr fo67_2 (by rfl)) ?_
    refine RS.on (dj := 65) rfl (congrArg Value.bool hb13) ?_
    refine RS.q rfl (QO.fieldAddr fo61_7 (by rfl)) ?_
    refine RS.on (dj := 65) rfl (congrArg Value.bool hb13) ?_
    refine RS.q rfl (QO.load ty4 (by rfl) (by repeat (first | exact List.Mem.head _ | refine List.Mem.tail _ ?_)) (by rfl)) ?_
    refine RS.on (dj := 65) rfl (congrArg Value.bool hb13) ?_
    refine RS.q rfl (QO.fieldAddr fo61_7 (by rfl)) ?_
    refine RS.on (dj := 65) rfl (congrArg Value.bool hb13) ?_
    refine RS.q rfl (QO.load ty4 (by rfl) (by repeat (first | exact List.Mem.head _ | refine List.Mem.tail _ ?_)) (by rfl)) ?_
    refine RS.on (dj := 65) rfl (congrArg Value.bool hb13) ?_
    refine RS.q rfl (QO.bneq Try.underlying4 (by rfl) (by rfl)) ?_
    refine RS.q rfl (QO.pickF (by rfl) hb13 (by rfl)) ?_
    refine RS.q rfl (QO.move) ?_
    refine RS.split (dj := 73) (by rfl) (fun hb14 => ?_) (fun hb14 => ?_)
    · refine RS.off (dj := 73) rfl (.inl (congrArg Value.bool hb14)) (fun _ => rfl) rfl ?_
      refine RS.off (dj := 73) rfl (.inl (congrArg Value.bool hb14)) (fun _ => rfl) rfl ?_
      refine RS.off (dj := 73) rfl (.inl (congrArg Value.bool hb14)) (fun _ => rfl) rfl ?_
      refine RS.off (dj := 73) rfl (.inl (congrArg Value.bool hb14)) (fun _ => rfl) rfl ?_
      refine RS.off (dj := 73) rfl (.inl (congrArg Value.bool hb14)) (fun _ => rfl) rfl ?_
      refine RS.off (dj := 73) rfl (.inl (congrArg Value.bool hb14)) (fun _ => rfl) rfl ?_
      refine RS.off (dj := 73) rfl (.inl (congrArg Value.bool hb14)) (fun _ => rfl) rfl ?_
      refine RS.off (dj := 73) rfl (.inl (congrArg Value.bool hb14)) (fun _ => rfl) rfl ?_
      refine RS.q rfl (QO.pickT (by rfl) hb14 (by rfl)) ?_
      refine RS.nil ?_
      refine thenC_n ?_
      refine CS.condT (by rfl) rfl ?_
      refine CS.seq ?_
      refine CS.region ?_
      refine RS.q rfl (QO.assign) ?_
      refine RS.nil ?_
      refine thenC_n ?_
      refine CS.ret ?_
      refine blockC_r ?_
      refine thenC_r ?_
      refine loopQ_r ?_
      refine blockC_r ?_
      refine thenC_r ?_
      refine retQ.mk (H' := []) (.inr rfl) (RVs.tmp (by rfl) RVs.nil) (List.nil_sublist _) ?_
      exact ⟨congrArg iv (endE (by omega) hz (by omega) (frE1_5 hkf hka (by omega) (by omega) (by omega) (by omega) (.inr (.inl (bne_T (by assumption))))) (by omega)).symm, rfl⟩
    refine RS.on (dj := 73) rfl (congrArg Value.bool hb14) ?_
    refine RS.q rfl (QO.fieldAddr fo67_2 (by rfl)) ?_
    refine RS.on (dj := 73) rfl (congrArg Value.bool hb14) ?_
    refine RS.q rfl (QO.fieldAddr fo61_6 (by rfl)) ?_
    refine RS.on (dj := 73) rfl (congrArg Value.bool hb14) ?_
    refine RS.q rfl (QO.load ty59 (by rfl) (by repeat (first | exact List.Mem.head _ | refine List.Mem.tail _ ?_)) (by rfl)) ?_
    refine RS.on (dj := 73) rfl (congrArg Value.bool hb14) ?_
    refine RS.q rfl (QO.lenS Try.underlying59 (by rfl)) ?_
    refine RS.on (dj := 73) rfl (congrArg Value.bool hb14) ?_
    refine RS.q rfl (QO.fieldAddr fo61_6 (by rfl)) ?_
    refine RS.on (dj := 73) rfl (congrArg Value.bool hb14) ?_
    refine RS.q rfl (QO.load ty59 (by rfl) (by repeat (first | exact List.Mem.head _ | refine List.Mem.tail _ ?_)) (by rfl)) ?_
    refine RS.on (dj := 73) rfl (congrArg Value.bool hb14) ?_
    refine RS.q rfl (QO.lenS Try.underlying59 (by rfl)) ?_
    refine RS.on (dj := 73) rfl (congrArg Value.bool hb14) ?_
    refine RS.q rfl (QO.neq (by rfl) (by rfl)) ?_
    refine RS.q rfl (QO.pickF (by rfl) hb14 (by rfl)) ?_
    refine RS.nil ?_
    refine thenC_n ?_
    refine CS.cond (by rfl) (fun hb15 => ?_) (fun hb15 => ?_)
    · have hb15p := bne_iff_ne.1 hb15
      refine CS.seq ?_
      refine CS.region ?_
      refine RS.q rfl (QO.assign) ?_
      refine RS.nil ?_
      refine thenC_n ?_
      refine CS.ret ?_
      refine blockC_r ?_
      refine thenC_r ?_
      refine loopQ_r ?_
      refine blockC_r ?_
      refine thenC_r ?_
      refine retQ.mk (H' := []) (.inr rfl) (RVs.tmp (by rfl) RVs.nil) (List.nil_sublist _) ?_
      exact ⟨congrArg iv (endE (by omega) hz (by omega) (frE1_5 hkf hka (by omega) (by omega) (by omega) (by omega) (.inr (.inr (by omega)))) (by omega)).symm, rfl⟩
    have hb15p := of_bne_false hb15
    refine CS.skip ?_
    refine blockC_n ?_
    refine thenC_n ?_
    refine CS.region ?_
    refine RS.q rfl (QO.add (by rfl) (by rfl) (by omega) (by omega)) ?_
    refine RS.q rfl (QO.move) ?_
    refine RS.nil ?_
    refine loopQ_n (by intro t ht; repeat (first | with_reducible exact rfl | exact frame_puts ht (frame_mix ht) _ rfl | (refine frame_put rfl ht ?_) | (refine frame_puts ht ?_ _ rfl) | exact frame_mix ht | (refine frame_mix2 rfl ht ?_) | exact rfl)) ?_
    exact ⟨k + 1, ⟨by omega, firstE_suc hz (frE1_0 hkf hka (by omega) (by omega) (by omega) (by omega) (no3 (by omega) (bne_F (by assumption)) (by omega)))⟩, by omega, (by repeat (first | exact kn_nil | refine kn_cons (by rfl) ?_)), (by repeat (first | exact List.Sublist.refl _ | exact List.nil_sublist _ | refine List.Sublist.cons_cons _ ?_ | refine List.Sublist.cons _ ?_ | exact Sbp.refl | exact Sbp.nil | refine Sbp.cons (by repeat (first | exact Rem.head | apply Rem.tail)) ?_ | exact Sbp.app | refine Sbp.skip ?_))⟩
  have hb2p := of_decide_eq_false hb2
  refine CS.exit ?_
  refine thenC_x ?_
  refine loopQ_x ?_
  refine blockC_x ?_
  refine thenC_n ?_
  refine CS.seq ?_
  refine CS.region ?_
  refine RS.q rfl (QO.assign) ?_
  refine RS.nil ?_
  refine thenC_n ?_
  refine CS.ret ?_
  refine retQ.mk (H' := []) (.inr rfl) (RVs.tmp (by rfl) RVs.nil) (List.nil_sublist _) ?_
  exact ⟨congrArg iv (frE_0 (by omega) (by omega) hz (by omega)).symm, rfl⟩

theorem first3c (a b c : Int) (g : Nat) (W : World) (hcell : ∀ j v, ([iv a, iv b, iv c] : List Value)[j]? = some v → W.cell? ⟨g, j, none⟩ = some v) : Fn_ Try.prog 68 #[.slice (some ⟨g, 0, none⟩) 3 3] W (fun v H => v = iv (if a ≠ 0 then a else if b ≠ 0 then b else c) ∧ H = []) :=
  (firstN [a, b, c] g W hcell (show 3 ≤ maxLen by decide)).mono fun v H h => ⟨h.1.trans (congrArg iv first3), h.2⟩

theorem cellOwn {W w : World} {H : HL} {g t : Nat} {cs : List Value} (ho : Own W w H) (hm : (⟨g, t, cs⟩ : B) ∈ H) : ∀ j v, cs[j]? = some v → w.cell? ⟨g, j, none⟩ = some v := fun j v hj => by rw [(ho.blk _ hm).2.cell]; exact hj
theorem orD_T {p q : Prop} [Decidable p] [Decidable q] (h : decide p = true) : true = decide (p ∨ q) := (decide_eq_true (.inl (of_decide_eq_true h))).symm
theorem orD_F {p q : Prop} [Decidable p] [Decidable q] (h : decide p = false) : decide q = decide (p ∨ q) := decide_eq_decide.2 ⟨.inr, fun h2 => h2.elim (fun h3 => absurd h3 (of_decide_eq_false h)) id⟩
def e3 (k : KF) : Int := if (if decide (k.frame < 0 ∨ 16777216 < k.frame) = true then (3 : Int) else 0) ≠ 0 then (if decide (k.frame < 0 ∨ 16777216 < k.frame) = true then (3 : Int) else 0) else if (if decide (k.ease < 1 ∨ 3 < k.ease) = true then (1 : Int) else 0) ≠ 0 then (if decide (k.ease < 1 ∨ 3 < k.ease) = true then (1 : Int) else 0) else winE k.win
theorem e3_is (k : KF) : e3 k = if k.frame < 0 ∨ 16777216 < k.frame then 3 else if k.ease < 1 ∨ 3 < k.ease then 1 else winE k.win := by
  unfold e3
  simp only [decide_eq_true_eq]
  by_cases h1 : k.frame < 0 ∨ 16777216 < k.frame
  · simp [h1]
  by_cases h2 : k.ease < 1 ∨ 3 < k.ease
  · simp [h1, h2]
  simp [h1, h2]
theorem e3_ne {l : List KF} {i : Nat} {k : KF} (hk : l.getD i default = k) (h : e3 k ≠ 0) : frE1 l i = e3 k := by
  rw [e3_is] at h ⊢
  by_cases h1 : k.frame < 0 ∨ 16777216 < k.frame
  · rw [if_pos h1]; exact frE1_1 hk h1
  rw [if_neg h1] at h ⊢
  by_cases h2 : k.ease < 1 ∨ 3 < k.ease
  · rw [if_pos h2]; exact frE1_2 hk h1 h2
  rw [if_neg h2] at h ⊢
  exact frE1_3 hk h1 h2 h
theorem e3_0 {k : KF} (h : e3 k = 0) : ¬ (k.frame < 0 ∨ 16777216 < k.frame) ∧ ¬ (k.ease < 1 ∨ 3 < k.ease) ∧ winE k.win = 0 := by
  rw [e3_is] at h
  by_cases h1 : k.frame < 0 ∨ 16777216 < k.frame
  · rw [if_pos h1] at h; omega
  rw [if_neg h1] at h
  by_cases h2 : k.ease < 1 ∨ 3 < k.ease
  · rw [if_pos h2] at h; omega
  rw [if_neg h2] at h
  exact ⟨h1, h2, h⟩
theorem first3k (k : KF) (g : Nat) (W : World) (hcell : ∀ j v, ([iv (if decide (k.frame < 0 ∨ 16777216 < k.frame) = true then (3 : Int) else 0), iv (if decide (k.ease < 1 ∨ 3 < k.ease) = true then (1 : Int) else 0), iv (winE k.win)] : List Value)[j]? = some v → W.cell? ⟨g, j, none⟩ = some v) : Fn_ Try.prog 68 #[.slice (some ⟨g, 0, none⟩) 3 3] W (fun v H => v = iv (e3 k) ∧ H = []) := first3c _ _ _ g W hcell

set_option maxRecDepth 100000 in
theorem framesError (A : Option Addr) (c : Nat) (l : List KF) (W : World) (hA : KS W A l) (hm : l.length ≤ maxLen) : Fn_ Try.prog 23 #[.slice A l.length c] W (fun v H => v = iv (frE l) ∧ H = []) := by
  unfold maxLen at hm
  refine Fn_.intro Try.func23 rfl rfl (by rfl) ?_
  refine CS.seq ?_
  refine CS.region ?_
  refine RS.q rfl (QO.assign) ?_
  refine RS.nil ?_
  refine thenC_n ?_
  refine CS.seq ?_
  refine CS.seq ?_
  refine CS.region ?_
  refine RS.q rfl (QO.move) ?_
  refine RS.q rfl (QO.lenS Try.underlying57 (by rfl)) ?_
  refine RS.q rfl (QO.eql (by rfl) (by rfl)) ?_
  refine RS.nil ?_
  refine thenC_n ?_
  refine CS.cond (by rfl) (fun hb0 => ?_) (fun hb0 => ?_)
  · have hb0p := eq_of_beq hb0
    refine CS.seq ?_
    refine CS.region ?_
    refine RS.q rfl (QO.assign) ?_
    refine RS.nil ?_
    refine thenC_n ?_
    refine CS.ret ?_
    refine thenC_r ?_
    refine retQ.mk (H' := []) (.inr rfl) (RVs.tmp (by rfl) RVs.nil) (List.nil_sublist _) ?_
    exact ⟨congrArg iv (frN_0 (by omega)).symm, rfl⟩
  have hb0p := ne_of_beq_false hb0
  refine CS.skip ?_
  refine thenC_n ?_
  refine CS.seq ?_
  refine CS.seq ?_
  refine CS.region ?_
  refine RS.q rfl (QO.move) ?_
  refine RS.q rfl (QO.lenS Try.underlying57 (by rfl)) ?_
  refine RS.q rfl (QO.gtr (by rfl) (by rfl)) ?_
  refine RS.nil ?_
  refine thenC_n ?_
  refine CS.cond (by rfl) (fun hb1 => ?_) (fun hb1 => ?_)
  · have hb1p := of_decide_eq_true hb1
    refine CS.seq ?_
    refine CS.region ?_
    refine RS.q rfl (QO.assign) ?_
    refine RS.nil ?_
    refine thenC_n ?_
    refine CS.ret ?_
    refine thenC_r ?_
    refine retQ.mk (H' := []) (.inr rfl) (RVs.tmp (by rfl) RVs.nil) (List.nil_sublist _) ?_
    exact ⟨congrArg iv (frN_1 (by omega) (by omega)).symm, rfl⟩
  have hb1p := of_decide_eq_false hb1
  refine CS.skip ?_
  refine thenC_n ?_
  refine CS.seq ?_
  refine CS.seq ?_
  refine CS.region ?_
  refine RS.q rfl (QO.move) ?_
  refine RS.q rfl (QO.lenS Try.underlying57 (by rfl)) ?_
  refine RS.q rfl (QO.move) ?_
  refine RS.nil ?_
  refine thenC_n ?_
  refine CS.block ?_
  refine CS.loop (X := Nat) (2 :: 3 :: 4 :: 5 :: 6 :: 15 :: 16 :: 17 :: 18 :: 19 :: 20 :: 21 :: 22 :: 23 :: 24 :: 25 :: 26 :: 27 :: 28 :: 29 :: 30 :: 31 :: 32 :: 33 :: 34 :: 35 :: 36 :: 37 :: 38 :: 39 :: 40 :: 41 :: 42 :: 43 :: 44 :: 45 :: 46 :: 47 :: 48 :: 49 :: 50 :: 51 :: 52 :: 53 :: 54 :: 55 :: 56 :: 57 :: 58 :: 59 :: 60 :: 61 :: 62 :: 63 :: 64 :: 65 :: 66 :: 67 :: 68 :: 69 :: 70 :: 71 :: 72 :: 73 :: 74 :: 75 :: 76 :: 77 :: 78 :: 79 :: 80 :: 81 :: 82 :: 83 :: 84 :: 85 :: 86 :: 87 :: []) (fun k => [(15, iv (k : Int))]) (fun k => []) (fun k => k ≤ l.length ∧ firstE (frE1 l) k = 0) (fun k => l.length - k) 0 ⟨Nat.zero_le _, rfl⟩ ?_ ?_ ?_
  · exact (by repeat (first | exact kn_nil | refine kn_cons (by rfl) ?_))
  · exact (by repeat (first | exact List.Sublist.refl _ | exact List.nil_sublist _ | refine List.Sublist.cons_cons _ ?_ | refine List.Sublist.cons _ ?_ | exact Sbp.refl | exact Sbp.nil | refine Sbp.cons (by repeat (first | exact Rem.head | apply Rem.tail)) ?_ | exact Sbp.app | refine Sbp.skip ?_))
  intro k gj6 hz
  obtain ⟨hk, hz⟩ := hz
  refine CS.seq ?_
  refine CS.region ?_
  refine RS.q rfl (QO.lss (by rfl) (by rfl)) ?_
  refine RS.nil ?_
  refine thenC_n ?_
  refine CS.seq ?_
  refine CS.cond (by rfl) (fun hb2 => ?_) (fun hb2 => ?_)
  · have hb2p := of_decide_eq_true hb2
    refine CS.skip ?_
    refine thenC_n ?_
    refine CS.seq ?_
    refine CS.block ?_
    refine CS.seq ?_
    refine CS.region ?_
    obtain ⟨bA, oA, e1⟩ := hA.isS (show 0 < l.length by omega)
    subst e1
    obtain ⟨kf, hkf⟩ : ∃ kf, l.getD k default = kf := ⟨_, rfl⟩
    obtain ⟨ka, hka⟩ : ∃ ka, (l.getD 0 default).win = ka := ⟨_, rfl⟩
    have hd := hA.whole (i := k) (show k < l.length by omega) (q := oA + (k : Int).toNat * 10) (by rw [Int.toNat_natCast])
    have hok := hA.ok (i := k) (show k < l.length by omega)
    rw [hkf] at hd hok
    have hd0 := hA.win (i := 0) (show 0 < l.length by omega) (q := oA + (0 : Int).toNat * 10 + 2) rfl
    rw [hka] at hd0
    refine RS.q rfl (QO.move) ?_
    refine RS.q rfl (QO.idx Try.underlying57 ty67 (by rfl) (by rfl) (by omega) (by omega)) ?_
    refine RS.q rfl (QO.loadOA ty67 (vs := kfC kf) (by rfl) hd (by rfl)) ?_
    refine RS.alloc rfl ty67 ?_
    intro g4
    refine RS.q rfl (QO.assign) ?_
    refine RS.storeB ty67 (by rfl) (by rfl) (by rfl) (by rfl) (by rfl) (by repeat (first | exact Upd.head | apply Upd.tail)) (by rfl) ?_
    refine RS.nil ?_
    refine thenC_n ?_
    refine CS.seq ?_
    refine CS.region ?_
    refine RS.q rfl (QO.move) ?_
    refine RS.q rfl (QO.idx Try.underlying57 ty67 (by rfl) (by rfl) (by omega) (by omega)) ?_
    refine RS.q rfl (QO.fieldAddr fo67_2 (by rfl)) ?_
    refine RS.q rfl (QO.loadOA ty61 (vs := winC ka (l.getD 0 default).A (l.getD 0 default).c) (by rfl) hd0 (by rfl)) ?_
    refine RS.alloc rfl ty61 ?_
    intro g5
    refine RS.storeB ty61 (by rfl) (by rfl) (by rfl) (by rfl) (by rfl) (by repeat (first | exact Upd.head | apply Upd.tail)) (by rfl) ?_
    refine RS.nil ?_
    refine thenC_n ?_
    refine CS.seq ?_
    refine CS.draw 24 rfl (by kernel_rfl) (by kernel_rfl) ?_
    refine RT.take (i := 0) rfl (by kernel_rfl) rfl (QO.fieldAddr fo67_0 (by rfl)) ?_
    refine RT.take (i := 1) rfl (by kernel_rfl) rfl (QO.load ty3 (by rfl) (by repeat (first | exact List.Mem.head _ | refine List.Mem.tail _ ?_)) (by rfl)) ?_
    refine RT.take (i := 2) rfl (by kernel_rfl) rfl (QO.lss (by rfl) (by rfl)) ?_
    refine RT.take (i := 3) rfl (by kernel_rfl) rfl (QO.move) ?_
    refine RT.split (dj := 27) (by rfl) (fun hb3 => ?_) (fun hb3 => ?_)
    · have hb3p := of_decide_eq_true hb3
      refine RT.takeOff (i := 4) (dj := 27) rfl rfl (.inl (congrArg Value.bool hb3)) (fun _ => rfl) (by kernel_rfl) rfl ?_
      refine RT.takeOff (i := 5) (dj := 27) rfl rfl (.inl (congrArg Value.bool hb3)) (fun _ => rfl) (by kernel_rfl) rfl ?_
      refine RT.takeOff (i := 6) (dj := 27) rfl rfl (.inl (congrArg Value.bool hb3)) (fun _ => rfl) (by kernel_rfl) rfl ?_
      refine RT.takev (i := 7) rfl (by kernel_rfl) rfl (QO.pickT (by rfl) hb3 (by rfl)) (congrArg Value.bool (show _ = decide (kf.frame < 0 ∨ 16777216 < kf.frame) from by first | exact orD_T (p := kf.frame < 0) (q := 16777216 < kf.frame) (by assumption) | exact orD_F (p := kf.frame < 0) (q := 16777216 < kf.frame) (by assumption))) ?_
      refine RT.take (i := 9) rfl (by kernel_rfl) rfl (QO.fieldAddr fo67_1 (by rfl)) ?_
      refine RT.take (i := 10) rfl (by kernel_rfl) rfl (QO.load ty3 (by rfl) (by repeat (first | exact List.Mem.head _ | refine List.Mem.tail _ ?_)) (by rfl)) ?_
      refine RT.take (i := 11) rfl (by kernel_rfl) rfl (QO.lss (by rfl) (by rfl)) ?_
      refine RT.take (i := 18) rfl (by kernel_rfl) rfl (QO.fieldAddr fo67_2 (by rfl)) ?_
      refine RT.take (i := 19) rfl (by kernel_rfl) rfl (QO.loadA ty61 (by rfl) (by repeat (first | exact List.Mem.head _ | refine List.Mem.tail _ ?_)) (by rfl) (by rfl)) ?_
      refine RT.one (i := 8) (by kernel_rfl) rfl rfl ?_
      refine RS.call rfl (by rfl) ok62 (by rfl) (fun w ho => when _ _ _) ?_
      rintro _ _ ⟨rfl, rfl⟩
      refine RS.nil ⟨(by repeat (first | exact List.Sublist.refl _ | exact List.nil_sublist _ | refine List.Sublist.cons_cons _ ?_ | refine List.Sublist.cons _ ?_ | exact Sbp.refl | exact Sbp.nil | refine Sbp.cons (by repeat (first | exact Rem.head | apply Rem.tail)) ?_ | exact Sbp.app | refine Sbp.skip ?_)), ?_⟩
      refine RT.take (i := 12) rfl (by kernel_rfl) rfl (QO.move) ?_
      refine RT.split (dj := 36) (by rfl) (fun hb4 => ?_) (fun hb4 => ?_)
      · have hb4p := of_decide_eq_true hb4
        refine RT.takeOff (i := 13) (dj := 36) rfl rfl (.inl (congrArg Value.bool hb4)) (fun _ => rfl) (by kernel_rfl) rfl ?_
        refine RT.takeOff (i := 14) (dj := 36) rfl rfl (.inl (congrArg Value.bool hb4)) (fun _ => rfl) (by kernel_rfl) rfl ?_
        refine RT.takeOff (i := 15) (dj := 36) rfl rfl (.inl (congrArg Value.bool hb4)) (fun _ => rfl) (by kernel_rfl) rfl ?_
        refine RT.takev (i := 16) rfl (by kernel_rfl) rfl (QO.pickT (by rfl) hb4 (by rfl)) (congrArg Value.bool (show _ = decide (kf.ease < 1 ∨ 3 < kf.ease) from by first | exact orD_T (p := kf.ease < 1) (q := 3 < kf.ease) (by assumption) | exact orD_F (p := kf.ease < 1) (q := 3 < kf.ease) (by assumption))) ?_
        refine RT.one (i := 17) (by kernel_rfl) rfl rfl ?_
        refine RS.call rfl (by rfl) ok62 (by rfl) (fun w ho => when _ _ _) ?_
        rintro _ _ ⟨rfl, rfl⟩
        refine RS.nil ⟨(by repeat (first | exact List.Sublist.refl _ | exact List.nil_sublist _ | refine List.Sublist.cons_cons _ ?_ | refine List.Sublist.cons _ ?_ | exact Sbp.refl | exact Sbp.nil | refine Sbp.cons (by repeat (first | exact Rem.head | apply Rem.tail)) ?_ | exact Sbp.app | refine Sbp.skip ?_)), ?_⟩
        refine RT.one (i := 20) (by kernel_rfl) rfl rfl ?_
        refine RS.call rfl (by rfl) ok69 (by rfl) (fun w ho => windowError kf.win kf.A kf.c _ (hok.1.own ho) hok.2) ?_
        rintro _ _ ⟨rfl, rfl⟩
        refine RS.nil ⟨(by repeat (first | exact List.Sublist.refl _ | exact List.nil_sublist _ | refine List.Sublist.cons_cons _ ?_ | refine List.Sublist.cons _ ?_ | exact Sbp.refl | exact Sbp.nil | refine Sbp.cons (by repeat (first | exact Rem.head | apply Rem.tail)) ?_ | exact Sbp.app | refine Sbp.skip ?_)), ?_⟩
        refine RT.one (i := 21) (by kernel_rfl) rfl rfl ?_
        refine RS.buildSlice rfl Try.underlying176 ty32 (by decide) (by decide) (by rfl) (by rfl) ?_
        intro g45
        refine RS.nil ⟨(by repeat (first | exact List.Sublist.refl _ | exact List.nil_sublist _ | refine List.Sublist.cons_cons _ ?_ | refine List.Sublist.cons _ ?_ | exact Sbp.refl | exact Sbp.nil | refine Sbp.cons (by repeat (first | exact Rem.head | apply Rem.tail)) ?_ | exact Sbp.app | refine Sbp.skip ?_)), ?_⟩
        refine RT.one (i := 22) (by kernel_rfl) rfl rfl ?_
        refine RS.call rfl (by rfl) ok68 (by rfl) (fun w ho => first3k kf g45 _ (cellOwn ho (by repeat (first | exact List.Mem.head _ | refine List.Mem.tail _ ?_)))) ?_
        rintro _ _ ⟨rfl, rfl⟩
        refine RS.nil ⟨(by repeat (first | exact List.Sublist.refl _ | exact List.nil_sublist _ | refine List.Sublist.cons_cons _ ?_ | refine List.Sublist.cons _ ?_ | exact Sbp.refl | exact Sbp.nil | refine Sbp.cons (by repeat (first | exact Rem.head | apply Rem.tail)) ?_ | exact Sbp.app | refine Sbp.skip ?_)), ?_⟩
        refine RT.take (i := 23) rfl (by kernel_rfl) rfl (QO.assign) ?_
        refine RT.done (by kernel_rfl) ?_
        refine thenC_n ?_
        refine CS.seq ?_
        refine CS.seq ?_
        refine CS.region ?_
        refine RS.q rfl (QO.move) ?_
        refine RS.q rfl (QO.neq (by rfl) (by rfl)) ?_
        refine RS.nil ?_
        refine thenC_n ?_
        refine CS.cond (by rfl) (fun hb5 => ?_) (fun hb5 => ?_)
        · have hb5p := bne_iff_ne.1 hb5
          refine CS.seq ?_
          refine CS.region ?_
          refine RS.q rfl (QO.move) ?_
          refine RS.q rfl (QO.assign) ?_
          refine RS.nil ?_
          refine thenC_n ?_
          refine CS.ret ?_
          refine thenC_r ?_
          refine blockC_r ?_
          refine thenC_r ?_
          refine loopQ_r ?_
          refine blockC_r ?_
          refine thenC_r ?_
          refine retQ.mk (H' := []) (.inr rfl) (RVs.tmp (by rfl) RVs.nil) (List.nil_sublist _) ?_
          exact ⟨congrArg iv (endE (by omega) hz (by omega) (e3_ne hkf (by assumption)) (by assumption)).symm, rfl⟩
        have hb5p := of_bne_false hb5
        refine CS.skip ?_
        refine thenC_n ?_
        refine CS.seq ?_
        refine CS.seq ?_
        refine CS.draw 13 rfl (by kernel_rfl) (by kernel_rfl) ?_
        obtain ⟨q1, q2, q3⟩ := e3_0 (k := kf) (by assumption)
        refine RT.take (i := 0) rfl (by kernel_rfl) rfl (QO.move) ?_
        refine RT.take (i := 1) rfl (by kernel_rfl) rfl (QO.gtr (by rfl) (by rfl)) ?_
        refine RT.take (i := 2) rfl (by kernel_rfl) rfl (QO.move) ?_
        refine RT.split (dj := 52) (by rfl) (fun hb6 => ?_) (fun hb6 => ?_)
        · have hb6p := of_decide_eq_true hb6
          refine RT.takeOn (i := 3) (dj := 52) rfl rfl (congrArg Value.bool hb6) (by kernel_rfl) rfl (QO.fieldAddr fo67_0 (by rfl)) ?_
          refine RT.takeOn (i := 4) (dj := 52) rfl rfl (congrArg Value.bool hb6) (by kernel_rfl) rfl (QO.load ty3 (by rfl) (by repeat (first | exact List.Mem.head _ | refine List.Mem.tail _ ?_)) (by rfl)) ?_
          refine RT.takeOn (i := 5) (dj := 52) rfl rfl (congrArg Value.bool hb6) (by kernel_rfl) rfl (QO.move) ?_
          refine RT.takeOn (i := 6) (dj := 52) rfl rfl (congrArg Value.bool hb6) (by kernel_rfl) rfl (QO.move) ?_
          refine RT.takeOn (i := 7) (dj := 52) rfl rfl (congrArg Value.bool hb6) (by kernel_rfl) rfl (QO.sub (by rfl) (by rfl) (by omega) (by omega)) ?_
          have hp0 := hA.frame (i := k - 1) (show k - 1 < l.length by omega) (q := oA + ((k : Int) - 1).toNat * 10 + 0) (by omega)
          refine RT.takeOn (i := 8) (dj := 52) rfl rfl (congrArg Value.bool hb6) (by kernel_rfl) rfl (QO.idx Try.underlying57 ty67 (by rfl) (by rfl) (by omega) (by omega)) ?_
          refine RT.takeOn (i := 9) (dj := 52) rfl rfl (congrArg Value.bool hb6) (by kernel_rfl) rfl (QO.fieldAddr fo67_0 (by rfl)) ?_
          refine RT.takeOn (i := 10) (dj := 52) rfl rfl (congrArg Value.bool hb6) (by kernel_rfl) rfl (QO.loadO ty3 (by rfl) hp0) ?_
          refine RT.takeOn (i := 11) (dj := 52) rfl rfl (congrArg Value.bool hb6) (by kernel_rfl) rfl (QO.leq (by rfl) (by rfl)) ?_
          refine RT.take (i := 12) rfl (by kernel_rfl) rfl (QO.pickT (by rfl) hb6 (by rfl)) ?_
          refine RT.done (by kernel_rfl) ?_
          refine thenC_n ?_
          refine CS.cond (by rfl) (fun hb7 => ?_) (fun hb7 => ?_)
          · have hb7p := of_decide_eq_true hb7
            refine CS.seq ?_
            refine CS.region ?_
            refine RS.q rfl (QO.assign) ?_
            refine RS.nil ?_
            refine thenC_n ?_
            refine CS.ret ?_
            refine thenC_r ?_
            refine blockC_r ?_
            refine thenC_r ?_
            refine loopQ_r ?_
            refine blockC_r ?_
            refine thenC_r ?_
            refine retQ.mk (H' := []) (.inr rfl) (RVs.tmp (by rfl) RVs.nil) (List.nil_sublist _) ?_
            exact ⟨congrArg iv (endE (by omega) hz (by omega) (frE1_4 hkf (by omega) (by omega) (by omega) (by omega) rfl (by omega)) (by omega)).symm, rfl⟩
          have hb7p := of_decide_eq_false hb7
          refine CS.skip ?_
          refine thenC_n ?_
          refine CS.seq ?_
          refine CS.region ?_
          refine RS.q rfl (QO.fieldAddr fo67_2 (by rfl)) ?_
          refine RS.q rfl (QO.fieldAddr fo61_0 (by rfl)) ?_
          refine RS.q rfl (QO.load ty3 (by rfl) (by repeat (first | exact List.Mem.head _ | refine List.Mem.tail _ ?_)) (by rfl)) ?_
          refine RS.q rfl (QO.fieldAddr fo61_0 (by rfl)) ?_
          refine RS.q rfl (QO.load ty3 (by rfl) (by repeat (first | exact List.Mem.head _ | refine List.Mem.tail _ ?_)) (by rfl)) ?_
          refine RS.q rfl (QO.neq (by rfl) (by rfl)) ?_
          refine RS.q rfl (QO.move) ?_
          refine RS.split (dj := 69) (by rfl) (fun hb8 => ?_) (fun hb8 => ?_)
          · have hb8p := bne_iff_ne.1 hb8
            refine RS.off (dj := 69) rfl (.inl (congrArg Value.bool hb8)) (fun _ => rfl) rfl ?_
            refine RS.off (dj := 69) rfl (.inl (congrArg Value.bool hb8)) (fun _ => rfl) rfl ?_
            refine RS.off (dj := 69) rfl (.inl (congrArg Value.bool hb8)) (fun _ => rfl) rfl ?_
            refine RS.off (dj := 69) rfl (.inl (congrArg Value.bool hb8)) (fun _ => rfl) rfl ?_
            refine RS.off (dj := 69) rfl (.inl (congrArg Value.bool hb8)) (fun _ => rfl) rfl ?_
            refine RS.off (dj := 69) rfl (.inl (congrArg Value.bool hb8)) (fun _ => rfl) rfl ?_
            refine RS.q rfl (QO.pickT (by rfl) hb8 (by rfl)) ?_
            refine RS.q rfl (QO.move) ?_
            refine RS.off (dj := 77) rfl (.inl (congrArg Value.bool rfl)) (fun _ => rfl) rfl ?_
            refine RS.off (dj := 77) rfl (.inl (congrArg Value.bool rfl)) (fun _ => rfl) rfl ?_
            refine RS.off (dj := 77) rfl (.inl (congrArg Value.bool rfl)) (fun _ => rfl) rfl ?_
            refine RS.off (dj := 77) rfl (.inl (congrArg Value.bool rfl)) (fun _ => rfl) rfl ?_
            refine RS.off (dj := 77) rfl (.inl (congrArg Value.bool rfl)) (fun _ => rfl) rfl ?_
            refine RS.off (dj := 77) rfl (.inl (congrArg Value.bool rfl)) (fun _ => rfl) rfl ?_
            refine RS.off (dj := 77) rfl (.inl (congrArg Value.bool rfl)) (fun _ => rfl) rfl ?_
            refine RS.off (dj := 77) rfl (.inl (congrArg Value.bool rfl)) (fun _ => rfl) rfl ?_
            refine RS.q rfl (QO.pickT (by rfl) rfl (by rfl)) ?_
            refine RS.nil ?_
            refine thenC_n ?_
            refine CS.condT (by rfl) rfl ?_
            refine CS.seq ?_
            refine CS.region ?_
            refine RS.q rfl (QO.assign) ?_
            refine RS.nil ?_
            refine thenC_n ?_
            refine CS.ret ?_
            refine blockC_r ?_
            refine thenC_r ?_
            refine loopQ_r ?_
            refine blockC_r ?_
            refine thenC_r ?_
            refine retQ.mk (H' := []) (.inr rfl) (RVs.tmp (by rfl) RVs.nil) (List.nil_sublist _) ?_
            exact ⟨congrArg iv (endE (by omega) hz (by omega) (frE1_5 hkf hka (by omega) (by omega) (by omega) (by omega) (.inl (by omega))) (by omega)).symm, rfl⟩
          have hb8p := of_bne_false hb8
          refine RS.on (dj := 69) rfl (congrArg Value.bool hb8) ?_
          refine RS.q rfl (QO.fieldAddr fo67_2 (by rfl)) ?_
          refine RS.on (dj := 69) rfl (congrArg Value.bool hb8) ?_
          refine RS.q rfl (QO.fieldAddr fo61_7 (by rfl)) ?_
          refine RS.on (dj := 69) rfl (congrArg Value.bool hb8) ?_
          refine RS.q rfl (QO.load ty4 (by rfl) (by repeat (first | exact List.Mem.head _ | refine List.Mem.tail _ ?_)) (by rfl)) ?_
          refine RS.on (dj := 69) rfl (congrArg Value.bool hb8) ?_
          refine RS.q rfl (QO.fieldAddr fo61_7 (by rfl)) ?_
          refine RS.on (dj := 69) rfl (congrArg Value.bool hb8) ?_
          refine RS.q rfl (QO.load ty4 (by rfl) (by repeat (first | exact List.Mem.head _ | refine List.Mem.tail _ ?_)) (by rfl)) ?_
          refine RS.on (dj := 69) rfl (congrArg Value.bool hb8) ?_
          refine RS.q rfl (QO.bneq Try.underlying4 (by rfl) (by rfl)) ?_
          refine RS.q rfl (QO.pickF (by rfl) hb8 (by rfl)) ?_
          refine RS.q rfl (QO.move) ?_
          refine RS.split (dj := 77) (by rfl) (fun hb9 => ?_) (fun hb9 => ?_)
          · refine RS.off (dj := 77) rfl (.inl (congrArg Value.bool hb9)) (fun _ => rfl) rfl ?_
            refine RS.off (dj := 77) rfl (.inl (congrArg Value.bool hb9)) (fun _ => rfl) rfl ?_
            refine RS.off (dj := 77) rfl (.inl (congrArg Value.bool hb9)) (fun _ => rfl) rfl ?_
            refine RS.off (dj := 77) rfl (.inl (congrArg Value.bool hb9)) (fun _ => rfl) rfl ?_
            refine RS.off (dj := 77) rfl (.inl (congrArg Value.bool hb9)) (fun _ => rfl) rfl ?_
            refine RS.off (dj := 77) rfl (.inl (congrArg Value.bool hb9)) (fun _ => rfl) rfl ?_
            refine RS.off (dj := 77) rfl (.inl (congrArg Value.bool hb9)) (fun _ => rfl) rfl ?_
            refine RS.off (dj := 77) rfl (.inl (congrArg Value.bool hb9)) (fun _ => rfl) rfl ?_
            refine RS.q rfl (QO.pickT (by rfl) hb9 (by rfl)) ?_
            refine RS.nil ?_
            refine thenC_n ?_
            refine CS.condT (by rfl) rfl ?_
            refine CS.seq ?_
            refine CS.region ?_
            refine RS.q rfl (QO.assign) ?_
            refine RS.nil ?_
            refine thenC_n ?_
            refine CS.ret ?_
            refine blockC_r ?_
            refine thenC_r ?_
            refine loopQ_r ?_
            refine blockC_r ?_
            refine thenC_r ?_
            refine retQ.mk (H' := []) (.inr rfl) (RVs.tmp (by rfl) RVs.nil) (List.nil_sublist _) ?_
            exact ⟨congrArg iv (endE (by omega) hz (by omega) (frE1_5 hkf hka (by omega) (by omega) (by omega) (by omega) (.inl (by omega))) (by omega)).symm, rfl⟩
          refine RS.on (dj := 77) rfl (congrArg Value.bool hb9) ?_
          refine RS.q rfl (QO.fieldAddr fo67_2 (by rfl)) ?_
          refine RS.on (dj := 77) rfl (congrArg Value.bool hb9) ?_
          refine RS.q rfl (QO.fieldAddr fo61_6 (by rfl)) ?_
          refine RS.on (dj := 77) rfl (congrArg Value.bool hb9) ?_
          refine RS.q rfl (QO.load ty59 (by rfl) (by repeat (first | exact List.Mem.head _ | refine List.Mem.tail _ ?_)) (by rfl)) ?_
          refine RS.on (dj := 77) rfl (congrArg Value.bool hb9) ?_
          refine RS.q rfl (QO.lenS Try.underlying59 (by rfl)) ?_
          refine RS.on (dj := 77) rfl (congrArg Value.bool hb9) ?_
          refine RS.q rfl (QO.fieldAddr fo61_6 (by rfl)) ?_
          refine RS.on (dj := 77) rfl (congrArg Value.bool hb9) ?_
          refine RS.q rfl (QO.load ty59 (by rfl) (by repeat (first | exact List.Mem.head _ | refine List.Mem.tail _ ?_)) (by rfl)) ?_
          refine RS.on (dj := 77) rfl (congrArg Value.bool hb9) ?_
          refine RS.q rfl (QO.lenS Try.underlying59 (by rfl)) ?_
          refine RS.on (dj := 77) rfl (congrArg Value.bool hb9) ?_
          refine RS.q rfl (QO.neq (by rfl) (by rfl)) ?_
          refine RS.q rfl (QO.pickF (by rfl) hb9 (by rfl)) ?_
          refine RS.nil ?_
          refine thenC_n ?_
          refine CS.cond (by rfl) (fun hb10 => ?_) (fun hb10 => ?_)
          · have hb10p := bne_iff_ne.1 hb10
            refine CS.seq ?_
            refine CS.region ?_
            refine RS.q rfl (QO.assign) ?_
            refine RS.nil ?_
            refine thenC_n ?_
            refine CS.ret ?_
            refine blockC_r ?_
            refine thenC_r ?_
            refine loopQ_r ?_
            refine blockC_r ?_
            refine thenC_r ?_
            refine retQ.mk (H' := []) (.inr rfl) (RVs.tmp (by rfl) RVs.nil) (List.nil_sublist _) ?_
            exact ⟨congrArg iv (endE (by omega) hz (by omega) (frE1_5 hkf hka (by omega) (by omega) (by omega) (by omega) (.inl (by omega))) (by omega)).symm, rfl⟩
          have hb10p := of_bne_false hb10
          refine CS.skip ?_
          refine blockC_n ?_
          refine thenC_n ?_
          refine CS.region ?_
          refine RS.q rfl (QO.add (by rfl) (by rfl) (by omega) (by omega)) ?_
          refine RS.q rfl (QO.move) ?_
          refine RS.nil ?_
          refine loopQ_n (by intro t ht; repeat (first | with_reducible exact rfl | exact frame_puts ht (frame_mix ht) _ rfl | (refine frame_put rfl ht ?_) | (refine frame_puts ht ?_ _ rfl) | exact frame_mix ht | (refine frame_mix2 rfl ht ?_) | exact rfl)) ?_
          exact ⟨k + 1, ⟨by omega, firstE_suc hz (frE1_0 hkf hka (by omega) (by omega) (by omega) (by omega) (no3 (by omega) (bne_F (by assumption)) (by omega)))⟩, by omega, (by repeat (first | exact kn_nil | refine kn_cons (by rfl) ?_)), (by repeat (first | exact List.Sublist.refl _ | exact List.nil_sublist _ | refine List.Sublist.cons_cons _ ?_ | refine List.Sublist.cons _ ?_ | exact Sbp.refl | exact Sbp.nil | refine Sbp.cons (by repeat (first | exact Rem.head | apply Rem.tail)) ?_ | exact Sbp.app | refine Sbp.skip ?_))⟩
        have hb6p := of_decide_eq_false hb6
        refine RT.takeOff (i := 3) (dj := 52) rfl rfl (.inl (congrArg Value.bool hb6)) (fun _ => rfl) (by kernel_rfl) rfl ?_
        refine RT.takeOff (i := 4) (dj := 52) rfl rfl (.inl (congrArg Value.bool hb6)) (fun _ => rfl) (by kernel_rfl) rfl ?_
        refine RT.takeOff (i := 5) (dj := 52) rfl rfl (.inl (congrArg Value.bool hb6)) (fun _ => rfl) (by kernel_rfl) rfl ?_
        refine RT.takeOff (i := 6) (dj := 52) rfl rfl (.inl (congrArg Value.bool hb6)) (fun _ => rfl) (by kernel_rfl) rfl ?_
        refine RT.takeOff (i := 7) (dj := 52) rfl rfl (.inl (congrArg Value.bool hb6)) (fun _ => rfl) (by kernel_rfl) rfl ?_
        refine RT.takeOff (i := 8) (dj := 52) rfl rfl (.inl (congrArg Value.bool hb6)) (fun _ => rfl) (by kernel_rfl) rfl ?_
        refine RT.takeOff (i := 9) (dj := 52) rfl rfl (.inl (congrArg Value.bool hb6)) (fun _ => rfl) (by kernel_rfl) rfl ?_
        refine RT.takeOff (i := 10) (dj := 52) rfl rfl (.inl (congrArg Value.bool hb6)) (fun _ => rfl) (by kernel_rfl) rfl ?_
        refine RT.takeOff (i := 11) (dj := 52) rfl rfl (.inl (congrArg Value.bool hb6)) (fun _ => rfl) (by kernel_rfl) rfl ?_
        refine RT.take (i := 12) rfl (by kernel_rfl) rfl (QO.pickF (by rfl) hb6 (by rfl)) ?_
        refine RT.done (by kernel_rfl) ?_
        refine thenC_n ?_
        refine CS.condF (by rfl) rfl ?_
        refine CS.skip ?_
        refine thenC_n ?_
        refine CS.seq ?_
        refine CS.region ?_
        refine RS.q rfl (QO.fieldAddr fo67_2 (by rfl)) ?_
        refine RS.q rfl (QO.fieldAddr fo61_0 (by rfl)) ?_
        refine RS.q rfl (QO.load ty3 (by rfl) (by repeat (first | exact List.Mem.head _ | refine List.Mem.tail _ ?_)) (by rfl)) ?_
        refine RS.q rfl (QO.fieldAddr fo61_0 (by rfl)) ?_
        refine RS.q rfl (QO.load ty3 (by rfl) (by repeat (first | exact List.Mem.head _ | refine List.Mem.tail _ ?_)) (by rfl)) ?_
        refine RS.q rfl (QO.neq (by rfl) (by rfl)) ?_
        refine RS.q rfl (QO.move) ?_
        refine RS.split (dj := 69) (by rfl) (fun hb11 => ?_) (fun hb11 => ?_)
        · have hb11p := bne_iff_ne.1 hb11
          refine RS.off (dj := 69) rfl (.inl (congrArg Value.bool hb11)) (fun _ => rfl) rfl ?_
          refine RS.off (dj := 69) rfl (.inl (congrArg Value.bool hb11)) (fun _ => rfl) rfl ?_
          refine RS.off (dj := 69) rfl (.inl (congrArg Value.bool hb11)) (fun _ => rfl) rfl ?_
          refine RS.off (dj := 69) rfl (.inl (congrArg Value.bool hb11)) (fun _ => rfl) rfl ?_
          refine RS.off (dj := 69) rfl (.inl (congrArg Value.bool hb11)) (fun _ => rfl) rfl ?_
          refine RS.off (dj := 69) rfl (.inl (congrArg Value.bool hb11)) (fun _ => rfl) rfl ?_
          refine RS.q rfl (QO.pickT (by rfl) hb11 (by rfl)) ?_
          refine RS.q rfl (QO.move) ?_
          refine RS.off (dj := 77) rfl (.inl (congrArg Value.bool rfl)) (fun _ => rfl) rfl ?_
          refine RS.off (dj := 77) rfl (.inl (congrArg Value.bool rfl)) (fun _ => rfl) rfl ?_
          refine RS.off (dj := 77) rfl (.inl (congrArg Value.bool rfl)) (fun _ => rfl) rfl ?_
          refine RS.off (dj := 77) rfl (.inl (congrArg Value.bool rfl)) (fun _ => rfl) rfl ?_
          refine RS.off (dj := 77) rfl (.inl (congrArg Value.bool rfl)) (fun _ => rfl) rfl ?_
          refine RS.off (dj := 77) rfl (.inl (congrArg Value.bool rfl)) (fun _ => rfl) rfl ?_
          refine RS.off (dj := 77) rfl (.inl (congrArg Value.bool rfl)) (fun _ => rfl) rfl ?_
          refine RS.off (dj := 77) rfl (.inl (congrArg Value.bool rfl)) (fun _ => rfl) rfl ?_
          refine RS.q rfl (QO.pickT (by rfl) rfl (by rfl)) ?_
          refine RS.nil ?_
          refine thenC_n ?_
          refine CS.condT (by rfl) rfl ?_
          refine CS.seq ?_
          refine CS.region ?_
          refine RS.q rfl (QO.assign) ?_
          refine RS.nil ?_
          refine thenC_n ?_
          refine CS.ret ?_
          refine blockC_r ?_
          refine thenC_r ?_
          refine loopQ_r ?_
          refine blockC_r ?_
          refine thenC_r ?_
          refine retQ.mk (H' := []) (.inr rfl) (RVs.tmp (by rfl) RVs.nil) (List.nil_sublist _) ?_
          exact ⟨congrArg iv (endE (by omega) hz (by omega) (frE1_5 hkf hka (by omega) (by omega) (by omega) (by omega) (.inl (by omega))) (by omega)).symm, rfl⟩
        have hb11p := of_bne_false hb11
        refine RS.on (dj := 69) rfl (congrArg Value.bool hb11) ?_
        refine RS.q rfl (QO.fieldAddr fo67_2 (by rfl)) ?_
        refine RS.on (dj := 69) rfl (congrArg Value.bool hb11) ?_
        refine RS.q rfl (QO.fieldAddr fo61_7 (by rfl)) ?_
        refine RS.on (dj := 69) rfl (congrArg Value.bool hb11) ?_
        refine RS.q rfl (QO.load ty4 (by rfl) (by repeat (first | exact List.Mem.head _ | refine List.Mem.tail _ ?_)) (by rfl)) ?_
        refine RS.on (dj := 69) rfl (congrArg Value.bool hb11) ?_
        refine RS.q rfl (QO.fieldAddr fo61_7 (by rfl)) ?_
        refine RS.on (dj := 69) rfl (congrArg Value.bool hb11) ?_
        refine RS.q rfl (QO.load ty4 (by rfl) (by repeat (first | exact List.Mem.head _ | refine List.Mem.tail _ ?_)) (by rfl)) ?_
        refine RS.on (dj := 69) rfl (congrArg Value.bool hb11) ?_
        refine RS.q rfl (QO.bneq Try.underlying4 (by rfl) (by rfl)) ?_
        refine RS.q rfl (QO.pickF (by rfl) hb11 (by rfl)) ?_
        refine RS.q rfl (QO.move) ?_
        refine RS.split (dj := 77) (by rfl) (fun hb12 => ?_) (fun hb12 => ?_)
        · refine RS.off (dj := 77) rfl (.inl (congrArg Value.bool hb12)) (fun _ => rfl) rfl ?_
          refine RS.off (dj := 77) rfl (.inl (congrArg Value.bool hb12)) (fun _ => rfl) rfl ?_
          refine RS.off (dj := 77) rfl (.inl (congrArg Value.bool hb12)) (fun _ => rfl) rfl ?_
          refine RS.off (dj := 77) rfl (.inl (congrArg Value.bool hb12)) (fun _ => rfl) rfl ?_
          refine RS.off (dj := 77) rfl (.inl (congrArg Value.bool hb12)) (fun _ => rfl) rfl ?_
          refine RS.off (dj := 77) rfl (.inl (congrArg Value.bool hb12)) (fun _ => rfl) rfl ?_
          refine RS.off (dj := 77) rfl (.inl (congrArg Value.bool hb12)) (fun _ => rfl) rfl ?_
          refine RS.off (dj := 77) rfl (.inl (congrArg Value.bool hb12)) (fun _ => rfl) rfl ?_
          refine RS.q rfl (QO.pickT (by rfl) hb12 (by rfl)) ?_
          refine RS.nil ?_
          refine thenC_n ?_
          refine CS.condT (by rfl) rfl ?_
          refine CS.seq ?_
          refine CS.region ?_
          refine RS.q rfl (QO.assign) ?_
          refine RS.nil ?_
          refine thenC_n ?_
          refine CS.ret ?_
          refine blockC_r ?_
          refine thenC_r ?_
          refine loopQ_r ?_
          refine blockC_r ?_
          refine thenC_r ?_
          refine retQ.mk (H' := []) (.inr rfl) (RVs.tmp (by rfl) RVs.nil) (List.nil_sublist _) ?_
          exact ⟨congrArg iv (endE (by omega) hz (by omega) (frE1_5 hkf hka (by omega) (by omega) (by omega) (by omega) (.inl (by omega))) (by omega)).symm, rfl⟩
        refine RS.on (dj := 77) rfl (congrArg Value.bool hb12) ?_
        refine RS.q rfl (QO.fieldAddr fo67_2 (by rfl)) ?_
        refine RS.on (dj := 77) rfl (congrArg Value.bool hb12) ?_
        refine RS.q rfl (QO.fieldAddr fo61_6 (by rfl)) ?_
        refine RS.on (dj := 77) rfl (congrArg Value.bool hb12) ?_
        refine RS.q rfl (QO.load ty59 (by rfl) (by repeat (first | exact List.Mem.head _ | refine List.Mem.tail _ ?_)) (by rfl)) ?_
        refine RS.on (dj := 77) rfl (congrArg Value.bool hb12) ?_
        refine RS.q rfl (QO.lenS Try.underlying59 (by rfl)) ?_
        refine RS.on (dj := 77) rfl (congrArg Value.bool hb12) ?_
        refine RS.q rfl (QO.fieldAddr fo61_6 (by rfl)) ?_
        refine RS.on (dj := 77) rfl (congrArg Value.bool hb12) ?_
        refine RS.q rfl (QO.load ty59 (by rfl) (by repeat (first | exact List.Mem.head _ | refine List.Mem.tail _ ?_)) (by rfl)) ?_
        refine RS.on (dj := 77) rfl (congrArg Value.bool hb12) ?_
        refine RS.q rfl (QO.lenS Try.underlying59 (by rfl)) ?_
        refine RS.on (dj := 77) rfl (congrArg Value.bool hb12) ?_
        refine RS.q rfl (QO.neq (by rfl) (by rfl)) ?_
        refine RS.q rfl (QO.pickF (by rfl) hb12 (by rfl)) ?_
        refine RS.nil ?_
        refine thenC_n ?_
        refine CS.cond (by rfl) (fun hb13 => ?_) (fun hb13 => ?_)
        · have hb13p := bne_iff_ne.1 hb13
          refine CS.seq ?_
          refine CS.region ?_
          refine RS.q rfl (QO.assign) ?_
          refine RS.nil ?_
          refine thenC_n ?_
          refine CS.ret ?_
          refine blockC_r ?_
          refine thenC_r ?_
          refine loopQ_r ?_
          refine blockC_r ?_
          refine thenC_r ?_
          refine retQ.mk (H' := []) (.inr rfl) (RVs.tmp (by rfl) RVs.nil) (List.nil_sublist _) ?_
          exact ⟨congrArg iv (endE (by omega) hz (by omega) (frE1_5 hkf hka (by omega) (by omega) (by omega) (by omega) (.inl (by omega))) (by omega)).symm, rfl⟩
        have hb13p := of_bne_false hb13
        refine CS.skip ?_
        refine blockC_n ?_
        refine thenC_n ?_
        refine CS.region ?_
        refine RS.q rfl (QO.add (by rfl) (by rfl) (by omega) (by omega)) ?_
        refine RS.q rfl (QO.move) ?_
        refine RS.nil ?_
        refine loopQ_n (by intro t ht; repeat (first | with_reducible exact rfl | exact frame_puts ht (frame_mix ht) _ rfl | (refine frame_put rfl ht ?_) | (refine frame_puts ht ?_ _ rfl) | exact frame_mix ht | (refine frame_mix2 rfl ht ?_) | exact rfl)) ?_
        exact ⟨k + 1, ⟨by omega, firstE_suc hz (frE1_0 hkf hka (by omega) (by omega) (by omega) (by omega) (no3 (by omega) (bne_F (by assumption)) (by omega)))⟩, by omega, (by repeat (first | exact kn_nil | refine kn_cons (by rfl) ?_)), (by repeat (first | exact List.Sublist.refl _ | exact List.nil_sublist _ | refine List.Sublist.cons_cons _ ?_ | refine List.Sublist.cons _ ?_ | exact Sbp.refl | exact Sbp.nil | refine Sbp.cons (by repeat (first | exact Rem.head | apply Rem.tail)) ?_ | exact Sbp.app | refine Sbp.skip ?_))⟩
      have hb4p := of_decide_eq_false hb4
      refine RT.takeOn (i := 13) (dj := 36) rfl rfl (congrArg Value.bool hb4) (by kernel_rfl) rfl (QO.fieldAddr fo67_1 (by rfl)) ?_
      refine RT.takeOn (i := 14) (dj := 36) rfl rfl (congrArg Value.bool hb4) (by kernel_rfl) rfl (QO.load ty3 (by rfl) (by repeat (first | exact List.Mem.head _ | refine List.Mem.tail _ ?_)) (by rfl)) ?_
      refine RT.takeOn (i := 15) (dj := 36) rfl rfl (congrArg Value.bool hb4) (by kernel_rfl) rfl (QO.gtr (by rfl) (by rfl)) ?_
      refine RT.takev (i := 16) rfl (by kernel_rfl) rfl (QO.pickF (by rfl) hb4 (by rfl)) (congrArg Value.bool (show _ = decide (kf.ease < 1 ∨ 3 < kf.ease) from by first | exact orD_T (p := kf.ease < 1) (q := 3 < kf.ease) (by assumption) | exact orD_F (p := kf.ease < 1) (q := 3 < kf.ease) (by assumption))) ?_
      refine RT.one (i := 17) (by kernel_rfl) rfl rfl ?_
      refine RS.call rfl (by rfl) ok62 (by rfl) (fun w ho => when _ _ _) ?_
      rintro _ _ ⟨rfl, rfl⟩
      refine RS.nil ⟨(by repeat (first | exact List.Sublist.refl _ | exact List.nil_sublist _ | refine List.Sublist.cons_cons _ ?_ | refine List.Sublist.cons _ ?_ | exact Sbp.refl | exact Sbp.nil | refine Sbp.cons (by repeat (first | exact Rem.head | apply Rem.tail)) ?_ | exact Sbp.app | refine Sbp.skip ?_)), ?_⟩
      refine RT.one (i := 20) (by kernel_rfl) rfl rfl ?_
      refine RS.call rfl (by rfl) ok69 (by rfl) (fun w ho => windowError kf.win kf.A kf.c _ (hok.1.own ho) hok.2) ?_
      rintro _ _ ⟨rfl, rfl⟩
      refine RS.nil ⟨(by repeat (first | exact List.Sublist.refl _ | exact List.nil_sublist _ | refine List.Sublist.cons_cons _ ?_ | refine List.Sublist.cons _ ?_ | exact Sbp.refl | exact Sbp.nil | refine Sbp.cons (by repeat (first | exact Rem.head | apply Rem.tail)) ?_ | exact Sbp.app | refine Sbp.skip ?_)), ?_⟩
      refine RT.one (i := 21) (by kernel_rfl) rfl rfl ?_
      refine RS.buildSlice rfl Try.underlying176 ty32 (by decide) (by decide) (by rfl) (by rfl) ?_
      intro g45
      refine RS.nil ⟨(by repeat (first | exact List.Sublist.refl _ | exact List.nil_sublist _ | refine List.Sublist.cons_cons _ ?_ | refine List.Sublist.cons _ ?_ | exact Sbp.refl | exact Sbp.nil | refine Sbp.cons (by repeat (first | exact Rem.head | apply Rem.tail)) ?_ | exact Sbp.app | refine Sbp.skip ?_)), ?_⟩
      refine RT.one (i := 22) (by kernel_rfl) rfl rfl ?_
      refine RS.call rfl (by rfl) ok68 (by rfl) (fun w ho => first3k kf g45 _ (cellOwn ho (by repeat (first | exact List.Mem.head _ | refine List.Mem.tail _ ?_)))) ?_
      rintro _ _ ⟨rfl, rfl⟩
      refine RS.nil ⟨(by repeat (first | exact List.Sublist.refl _ | exact List.nil_sublist _ | refine List.Sublist.cons_cons _ ?_ | refine List.Sublist.cons _ ?_ | exact Sbp.refl | exact Sbp.nil | refine Sbp.cons (by repeat (first | exact Rem.head | apply Rem.tail)) ?_ | exact Sbp.app | refine Sbp.skip ?_)), ?_⟩
      refine RT.take (i := 23) rfl (by kernel_rfl) rfl (QO.assign) ?_
      refine RT.done (by kernel_rfl) ?_
      refine thenC_n ?_
      refine CS.seq ?_
      refine CS.seq ?_
      refine CS.region ?_
      refine RS.q rfl (QO.move) ?_
      refine RS.q rfl (QO.neq (by rfl) (by rfl)) ?_
      refine RS.nil ?_
      refine thenC_n ?_
      refine CS.cond (by rfl) (fun hb14 => ?_) (fun hb14 => ?_)
      · have hb14p := bne_iff_ne.1 hb14
        refine CS.seq ?_
        refine CS.region ?_
        refine RS.q rfl (QO.move) ?_
        refine RS.q rfl (QO.assign) ?_
        refine RS.nil ?_
        refine thenC_n ?_
        refine CS.ret ?_
        refine thenC_r ?_
        refine blockC_r ?_
        refine thenC_r ?_
        refine loopQ_r ?_
        refine blockC_r ?_
        refine thenC_r ?_
        refine retQ.mk (H' := []) (.inr rfl) (RVs.tmp (by rfl) RVs.nil) (List.nil_sublist _) ?_
        exact ⟨congrArg iv (endE (by omega) hz (by omega) (e3_ne hkf (by assumption)) (by assumption)).symm, rfl⟩
      have hb14p := of_bne_false hb14
      refine CS.skip ?_
      refine thenC_n ?_
      refine CS.seq ?_
      refine CS.seq ?_
      refine CS.draw 13 rfl (by kernel_rfl) (by kernel_rfl) ?_
      obtain ⟨q1, q2, q3⟩ := e3_0 (k := kf) (by assumption)
      refine RT.take (i := 0) rfl (by kernel_rfl) rfl (QO.move) ?_
      refine RT.take (i := 1) rfl (by kernel_rfl) rfl (QO.gtr (by rfl) (by rfl)) ?_
      refine RT.take (i := 2) rfl (by kernel_rfl) rfl (QO.move) ?_
      refine RT.split (dj := 52) (by rfl) (fun hb15 => ?_) (fun hb15 => ?_)
      · have hb15p := of_decide_eq_true hb15
        refine RT.takeOn (i := 3) (dj := 52) rfl rfl (congrArg Value.bool hb15) (by kernel_rfl) rfl (QO.fieldAddr fo67_0 (by rfl)) ?_
        refine RT.takeOn (i := 4) (dj := 52) rfl rfl (congrArg Value.bool hb15) (by kernel_rfl) rfl (QO.load ty3 (by rfl) (by repeat (first | exact List.Mem.head _ | refine List.Mem.tail _ ?_)) (by rfl)) ?_
        refine RT.takeOn (i := 5) (dj := 52) rfl rfl (congrArg Value.bool hb15) (by kernel_rfl) rfl (QO.move) ?_
        refine RT.takeOn (i := 6) (dj := 52) rfl rfl (congrArg Value.bool hb15) (by kernel_rfl) rfl (QO.move) ?_
        refine RT.takeOn (i := 7) (dj := 52) rfl rfl (congrArg Value.bool hb15) (by kernel_rfl) rfl (QO.sub (by rfl) (by rfl) (by omega) (by omega)) ?_
        have hp0 := hA.frame (i := k - 1) (show k - 1 < l.length by omega) (q := oA + ((k : Int) - 1).toNat * 10 + 0) (by omega)
        refine RT.takeOn (i := 8) (dj := 52) rfl rfl (congrArg Value.bool hb15) (by kernel_rfl) rfl (QO.idx Try.underlying57 ty67 (by rfl) (by rfl) (by omega) (by omega)) ?_
        refine RT.takeOn (i := 9) (dj := 52) rfl rfl (congrArg Value.bool hb15) (by kernel_rfl) rfl (QO.fieldAddr fo67_0 (by rfl)) ?_
        refine RT.takeOn (i := 10) (dj := 52) rfl rfl (congrArg Value.bool hb15) (by kernel_rfl) rfl (QO.loadO ty3 (by rfl) hp0) ?_
        refine RT.takeOn (i := 11) (dj := 52) rfl rfl (congrArg Value.bool hb15) (by kernel_rfl) rfl (QO.leq (by rfl) (by rfl)) ?_
        refine RT.take (i := 12) rfl (by kernel_rfl) rfl (QO.pickT (by rfl) hb15 (by rfl)) ?_
        refine RT.done (by kernel_rfl) ?_
        refine thenC_n ?_
        refine CS.cond (by rfl) (fun hb16 => ?_) (fun hb16 => ?_)
        · have hb16p := of_decide_eq_true hb16
          refine CS.seq ?_
          refine CS.region ?_
          refine RS.q rfl (QO.assign) ?_
          refine RS.nil ?_
          refine thenC_n ?_
          refine CS.ret ?_
          refine thenC_r ?_
          refine blockC_r ?_
          refine thenC_r ?_
          refine loopQ_r ?_
          refine blockC_r ?_
          refine thenC_r ?_
          refine retQ.mk (H' := []) (.inr rfl) (RVs.tmp (by rfl) RVs.nil) (List.nil_sublist _) ?_
          exact ⟨congrArg iv (endE (by omega) hz (by omega) (frE1_4 hkf (by omega) (by omega) (by omega) (by omega) rfl (by omega)) (by omega)).symm, rfl⟩
        have hb16p := of_decide_eq_false hb16
        refine CS.skip ?_
        refine thenC_n ?_
        refine CS.seq ?_
        refine CS.region ?_
        refine RS.q rfl (QO.fieldAddr fo67_2 (by rfl)) ?_
        refine RS.q rfl (QO.fieldAddr fo61_0 (by rfl)) ?_
        refine RS.q rfl (QO.load ty3 (by rfl) (by repeat (first | exact List.Mem.head _ | refine List.Mem.tail _ ?_)) (by rfl)) ?_
        refine RS.q rfl (QO.fieldAddr fo61_0 (by rfl)) ?_
        refine RS.q rfl (QO.load ty3 (by rfl) (by repeat (first | exact List.Mem.head _ | refine List.Mem.tail _ ?_)) (by rfl)) ?_
        refine RS.q rfl (QO.neq (by rfl) (by rfl)) ?_
        refine RS.q rfl (QO.move) ?_
        refine RS.split (dj := 69) (by rfl) (fun hb17 => ?_) (fun hb17 => ?_)
        · have hb17p := bne_iff_ne.1 hb17
          refine RS.off (dj := 69) rfl (.inl (congrArg Value.bool hb17)) (fun _ => rfl) rfl ?_
          refine RS.off (dj := 69) rfl (.inl (congrArg Value.bool hb17)) (fun _ => rfl) rfl ?_
          refine RS.off (dj := 69) rfl (.inl (congrArg Value.bool hb17)) (fun _ => rfl) rfl ?_
          refine RS.off (dj := 69) rfl (.inl (congrArg Value.bool hb17)) (fun _ => rfl) rfl ?_
          refine RS.off (dj := 69) rfl (.inl (congrArg Value.bool hb17)) (fun _ => rfl) rfl ?_
          refine RS.off (dj := 69) rfl (.inl (congrArg Value.bool hb17)) (fun _ => rfl) rfl ?_
          refine RS.q rfl (QO.pickT (by rfl) hb17 (by rfl)) ?_
          refine RS.q rfl (QO.move) ?_
          refine RS.off (dj := 77) rfl (.inl (congrArg Value.bool rfl)) (fun _ => rfl) rfl ?_
          refine RS.off (dj := 77) rfl (.inl (congrArg Value.bool rfl)) (fun _ => rfl) rfl ?_
          refine RS.off (dj := 77) rfl (.inl (congrArg Value.bool rfl)) (fun _ => rfl) rfl ?_
          refine RS.off (dj := 77) rfl (.inl (congrArg Value.bool rfl)) (fun _ => rfl) rfl ?_
          refine RS.off (dj := 77) rfl (.inl (congrArg Value.bool rfl)) (fun _ => rfl) rfl ?_
          refine RS.off (dj := 77) rfl (.inl (congrArg Value.bool rfl)) (fun _ => rfl) rfl ?_
          refine RS.off (dj := 77) rfl (.inl (congrArg Value.bool rfl)) (fun _ => rfl) rfl ?_
          refine RS.off (dj := 77) rfl (.inl (congrArg Value.bool rfl)) (fun _ => rfl) rfl ?_
          refine RS.q rfl (QO.pickT (by rfl) rfl (by rfl)) ?_
          refine RS.nil ?_
          refine thenC_n ?_
          refine CS.condT (by rfl) rfl ?_
          refine CS.seq ?_
          refine CS.region ?_
          refine RS.q rfl (QO.assign) ?_
          refine RS.nil ?_
          refine thenC_n ?_
          refine CS.ret ?_
          refine blockC_r ?_
          refine thenC_r ?_
          refine loopQ_r ?_
          refine blockC_r ?_
          refine thenC_r ?_
          refine retQ.mk (H' := []) (.inr rfl) (RVs.tmp (by rfl) RVs.nil) (List.nil_sublist _) ?_
          exact ⟨congrArg iv (endE (by omega) hz (by omega) (frE1_5 hkf hka (by omega) (by omega) (by omega) (by omega) (.inl (by omega))) (by omega)).symm, rfl⟩
        have hb17p := of_bne_false hb17
        refine RS.on (dj := 69) rfl (congrArg Value.bool hb17) ?_
        refine RS.q rfl (QO.fieldAddr fo67_2 (by rfl)) ?_
        refine RS.on (dj := 69) rfl (congrArg Value.bool hb17) ?_
        refine RS.q rfl (QO.fieldAddr fo61_7 (by rfl)) ?_
        refine RS.on (dj := 69) rfl (congrArg Value.bool hb17) ?_
        refine RS.q rfl (QO.load ty4 (by rfl) (by repeat (first | exact List.Mem.head _ | refine List.Mem.tail _ ?_)) (by rfl)) ?_
        refine RS.on (dj := 69) rfl (congrArg Value.bool hb17) ?_
        refine RS.q rfl (QO.fieldAddr fo61_7 (by rfl)) ?_
        refine RS.on (dj := 69) rfl (congrArg Value.bool hb17) ?_
        refine RS.q rfl (QO.load ty4 (by rfl) (by repeat (first | exact List.Mem.head _ | refine List.Mem.tail _ ?_)) (by rfl)) ?_
        refine RS.on (dj := 69) rfl (congrArg Value.bool hb17) ?_
        refine RS.q rfl (QO.bneq Try.underlying4 (by rfl) (by rfl)) ?_
        refine RS.q rfl (QO.pickF (by rfl) hb17 (by rfl)) ?_
        refine RS.q rfl (QO.move) ?_
        refine RS.split (dj := 77) (by rfl) (fun hb18 => ?_) (fun hb18 => ?_)
        · refine RS.off (dj := 77) rfl (.inl (congrArg Value.bool hb18)) (fun _ => rfl) rfl ?_
          refine RS.off (dj := 77) rfl (.inl (congrArg Value.bool hb18)) (fun _ => rfl) rfl ?_
          refine RS.off (dj := 77) rfl (.inl (congrArg Value.bool hb18)) (fun _ => rfl) rfl ?_
          refine RS.off (dj := 77) rfl (.inl (congrArg Value.bool hb18)) (fun _ => rfl) rfl ?_
          refine RS.off (dj := 77) rfl (.inl (congrArg Value.bool hb18)) (fun _ => rfl) rfl ?_
          refine RS.off (dj := 77) rfl (.inl (congrArg Value.bool hb18)) (fun _ => rfl) rfl ?_
          refine RS.off (dj := 77) rfl (.inl (congrArg Value.bool hb18)) (fun _ => rfl) rfl ?_
          refine RS.off (dj := 77) rfl (.inl (congrArg Value.bool hb18)) (fun _ => rfl) rfl ?_
          refine RS.q rfl (QO.pickT (by rfl) hb18 (by rfl)) ?_
          refine RS.nil ?_
          refine thenC_n ?_
          refine CS.condT (by rfl) rfl ?_
          refine CS.seq ?_
          refine CS.region ?_
          refine RS.q rfl (QO.assign) ?_
          refine RS.nil ?_
          refine thenC_n ?_
          refine CS.ret ?_
          refine blockC_r ?_
          refine thenC_r ?_
          refine loopQ_r ?_
          refine blockC_r ?_
          refine thenC_r ?_
          refine retQ.mk (H' := []) (.inr rfl) (RVs.tmp (by rfl) RVs.nil) (List.nil_sublist _) ?_
          exact ⟨congrArg iv (endE (by omega) hz (by omega) (frE1_5 hkf hka (by omega) (by omega) (by omega) (by omega) (.inl (by omega))) (by omega)).symm, rfl⟩
        refine RS.on (dj := 77) rfl (congrArg Value.bool hb18) ?_
        refine RS.q rfl (QO.fieldAddr fo67_2 (by rfl)) ?_
        refine RS.on (dj := 77) rfl (congrArg Value.bool hb18) ?_
        refine RS.q rfl (QO.fieldAddr fo61_6 (by rfl)) ?_
        refine RS.on (dj := 77) rfl (congrArg Value.bool hb18) ?_
        refine RS.q rfl (QO.load ty59 (by rfl) (by repeat (first | exact List.Mem.head _ | refine List.Mem.tail _ ?_)) (by rfl)) ?_
        refine RS.on (dj := 77) rfl (congrArg Value.bool hb18) ?_
        refine RS.q rfl (QO.lenS Try.underlying59 (by rfl)) ?_
        refine RS.on (dj := 77) rfl (congrArg Value.bool hb18) ?_
        refine RS.q rfl (QO.fieldAddr fo61_6 (by rfl)) ?_
        refine RS.on (dj := 77) rfl (congrArg Value.bool hb18) ?_
        refine RS.q rfl (QO.load ty59 (by rfl) (by repeat (first | exact List.Mem.head _ | refine List.Mem.tail _ ?_)) (by rfl)) ?_
        refine RS.on (dj := 77) rfl (congrArg Value.bool hb18) ?_
        refine RS.q rfl (QO.lenS Try.underlying59 (by rfl)) ?_
        refine RS.on (dj := 77) rfl (congrArg Value.bool hb18) ?_
        refine RS.q rfl (QO.neq (by rfl) (by rfl)) ?_
        refine RS.q rfl (QO.pickF (by rfl) hb18 (by rfl)) ?_
        refine RS.nil ?_
        refine thenC_n ?_
        refine CS.cond (by rfl) (fun hb19 => ?_) (fun hb19 => ?_)
        · have hb19p := bne_iff_ne.1 hb19
          refine CS.seq ?_
          refine CS.region ?_
          refine RS.q rfl (QO.assign) ?_
          refine RS.nil ?_
          refine thenC_n ?_
          refine CS.ret ?_
          refine blockC_r ?_
          refine thenC_r ?_
          refine loopQ_r ?_
          refine blockC_r ?_
          refine thenC_r ?_
          refine retQ.mk (H' := []) (.inr rfl) (RVs.tmp (by rfl) RVs.nil) (List.nil_sublist _) ?_
          exact ⟨congrArg iv (endE (by omega) hz (by omega) (frE1_5 hkf hka (by omega) (by omega) (by omega) (by omega) (.inl (by omega))) (by omega)).symm, rfl⟩
        have hb19p := of_bne_false hb19
        refine CS.skip ?_
        refine blockC_n ?_
        refine thenC_n ?_
        refine CS.region ?_
        refine RS.q rfl (QO.add (by rfl) (by rfl) (by omega) (by omega)) ?_
        refine RS.q rfl (QO.move) ?_
        refine RS.nil ?_
        refine loopQ_n (by intro t ht; repeat (first | with_reducible exact rfl | exact frame_puts ht (frame_mix ht) _ rfl | (refine frame_put rfl ht ?_) | (refine frame_puts ht ?_ _ rfl) | exact frame_mix ht | (refine frame_mix2 rfl ht ?_) | exact rfl)) ?_
        exact ⟨k + 1, ⟨by omega, firstE_suc hz (frE1_0 hkf hka (by omega) (by omega) (by omega) (by omega) (no3 (by omega) (bne_F (by assumption)) (by omega)))⟩, by omega, (by repeat (first | exact kn_nil | refine kn_cons (by rfl) ?_)), (by repeat (first | exact List.Sublist.refl _ | exact List.nil_sublist _ | refine List.Sublist.cons_cons _ ?_ | refine List.Sublist.cons _ ?_ | exact Sbp.refl | exact Sbp.nil | refine Sbp.cons (by repeat (first | exact Rem.head | apply Rem.tail)) ?_ | exact Sbp.app | refine Sbp.skip ?_))⟩
      have hb15p := of_decide_eq_false hb15
      refine RT.takeOff (i := 3) (dj := 52) rfl rfl (.inl (congrArg Value.bool hb15)) (fun _ => rfl) (by kernel_rfl) rfl ?_
      refine RT.takeOff (i := 4) (dj := 52) rfl rfl (.inl (congrArg Value.bool hb15)) (fun _ => rfl) (by kernel_rfl) rfl ?_
      refine RT.takeOff (i := 5) (dj := 52) rfl rfl (.inl (congrArg Value.bool hb15)) (fun _ => rfl) (by kernel_rfl) rfl ?_
      refine RT.takeOff (i := 6) (dj := 52) rfl rfl (.inl (congrArg Value.bool hb15)) (fun _ => rfl) (by kernel_rfl) rfl ?_
      refine RT.takeOff (i := 7) (dj := 52) rfl rfl (.inl (congrArg Value.bool hb15)) (fun _ => rfl) (by kernel_rfl) rfl ?_
      refine RT.takeOff (i := 8) (dj := 52) rfl rfl (.inl (congrArg Value.bool hb15)) (fun _ => rfl) (by kernel_rfl) rfl ?_
      refine RT.takeOff (i := 9) (dj := 52) rfl rfl (.inl (congrArg Value.bool hb15)) (fun _ => rfl) (by kernel_rfl) rfl ?_
      refine RT.takeOff (i := 10) (dj := 52) rfl rfl (.inl (congrArg Value.bool hb15)) (fun _ => rfl) (by kernel_rfl) rfl ?_
      refine RT.takeOff (i := 11) (dj := 52) rfl rfl (.inl (congrArg Value.bool hb15)) (fun _ => rfl) (by kernel_rfl) rfl ?_
      refine RT.take (i := 12) rfl (by kernel_rfl) rfl (QO.pickF (by rfl) hb15 (by rfl)) ?_
      refine RT.done (by kernel_rfl) ?_
      refine thenC_n ?_
      refine CS.condF (by rfl) rfl ?_
      refine CS.skip ?_
      refine thenC_n ?_
      refine CS.seq ?_
      refine CS.region ?_
      refine RS.q rfl (QO.fieldAddr fo67_2 (by rfl)) ?_
      refine RS.q rfl (QO.fieldAddr fo61_0 (by rfl)) ?_
      refine RS.q rfl (QO.load ty3 (by rfl) (by repeat (first | exact List.Mem.head _ | refine List.Mem.tail _ ?_)) (by rfl)) ?_
      refine RS.q rfl (QO.fieldAddr fo61_0 (by rfl)) ?_
      refine RS.q rfl (QO.load ty3 (by rfl) (by repeat (first | exact List.Mem.head _ | refine List.Mem.tail _ ?_)) (by rfl)) ?_
      refine RS.q rfl (QO.neq (by rfl) (by rfl)) ?_
      refine RS.q rfl (QO.move) ?_
      refine RS.split (dj := 69) (by rfl) (fun hb20 => ?_) (fun hb20 => ?_)
      · have hb20p := bne_iff_ne.1 hb20
        refine RS.off (dj := 69) rfl (.inl (congrArg Value.bool hb20)) (fun _ => rfl) rfl ?_
        refine RS.off (dj := 69) rfl (.inl (congrArg Value.bool hb20)) (fun _ => rfl) rfl ?_
        refine RS.off (dj := 69) rfl (.inl (congrArg Value.bool hb20)) (fun _ => rfl) rfl ?_
        refine RS.off (dj := 69) rfl (.inl (congrArg Value.bool hb20)) (fun _ => rfl) rfl ?_
        refine RS.off (dj := 69) rfl (.inl (congrArg Value.bool hb20)) (fun _ => rfl) rfl ?_
        refine RS.off (dj := 69) rfl (.inl (congrArg Value.bool hb20)) (fun _ => rfl) rfl ?_
        refine RS.q rfl (QO.pickT (by rfl) hb20 (by rfl)) ?_
        refine RS.q rfl (QO.move) ?_
        refine RS.off (dj := 77) rfl (.inl (congrArg Value.bool rfl)) (fun _ => rfl) rfl ?_
        refine RS.off (dj := 77) rfl (.inl (congrArg Value.bool rfl)) (fun _ => rfl) rfl ?_
        refine RS.off (dj := 77) rfl (.inl (congrArg Value.bool rfl)) (fun _ => rfl) rfl ?_
        refine RS.off (dj := 77) rfl (.inl (congrArg Value.bool rfl)) (fun _ => rfl) rfl ?_
        refine RS.off (dj := 77) rfl (.inl (congrArg Value.bool rfl)) (fun _ => rfl) rfl ?_
        refine RS.off (dj := 77) rfl (.inl (congrArg Value.bool rfl)) (fun _ => rfl) rfl ?_
        refine RS.off (dj := 77) rfl (.inl (congrArg Value.bool rfl)) (fun _ => rfl) rfl ?_
        refine RS.off (dj := 77) rfl (.inl (congrArg Value.bool rfl)) (fun _ => rfl) rfl ?_
        refine RS.q rfl (QO.pickT (by rfl) rfl (by rfl)) ?_
        refine RS.nil ?_
        refine thenC_n ?_
        refine CS.condT (by rfl) rfl ?_
        refine CS.seq ?_
        refine CS.region ?_
        refine RS.q rfl (QO.assign) ?_
        refine RS.nil ?_
        refine thenC_n ?_
        refine CS.ret ?_
        refine blockC_r ?_
        refine thenC_r ?_
        refine loopQ_r ?_
        refine blockC_r ?_
        refine thenC_r ?_
        refine retQ.mk (H' := []) (.inr rfl) (RVs.tmp (by rfl) RVs.nil) (List.nil_sublist _) ?_
        exact ⟨congrArg iv (endE (by omega) hz (by omega) (frE1_5 hkf hka (by omega) (by omega) (by omega) (by omega) (.inl (by omega))) (by omega)).symm, rfl⟩
      have hb20p := of_bne_false hb20
      refine RS.on (dj := 69) rfl (congrArg Value.bool hb20) ?_
      refine RS.q rfl (QO.fieldAddr fo67_2 (by rfl)) ?_
      refine RS.on (dj := 69) rfl (congrArg Value.bool hb20) ?_
      refine RS.q rfl (QO.fieldAddr fo61_7 (by rfl)) ?_
      refine RS.on (dj := 69) rfl (congrArg Value.bool hb20) ?_
      refine RS.q rfl (QO.load ty4 (by rfl) (by repeat (first | exact List.Mem.head _ | refine List.Mem.tail _ ?_)) (by rfl)) ?_
      refine RS.on (dj := 69) rfl (congrArg Value.bool hb20) ?_
      refine RS.q rfl (QO.fieldAddr fo61_7 (by rfl)) ?_
      refine RS.on (dj := 69) rfl (congrArg Value.bool hb20) ?_
      refine RS.q rfl (QO.load ty4 (by rfl) (by repeat (first | exact List.Mem.head _ | refine List.Mem.tail _ ?_)) (by rfl)) ?_
      refine RS.on (dj := 69) rfl (congrArg Value.bool hb20) ?_
      refine RS.q rfl (QO.bneq Try.underlying4 (by rfl) (by rfl)) ?_
      refine RS.q rfl (QO.pickF (by rfl) hb20 (by rfl)) ?_
      refine RS.q rfl (QO.move) ?_
      refine RS.split (dj := 77) (by rfl) (fun hb21 => ?_) (fun hb21 => ?_)
      · refine RS.off (dj := 77) rfl (.inl (congrArg Value.bool hb21)) (fun _ => rfl) rfl ?_
        refine RS.off (dj := 77) rfl (.inl (congrArg Value.bool hb21)) (fun _ => rfl) rfl ?_
        refine RS.off (dj := 77) rfl (.inl (congrArg Value.bool hb21)) (fun _ => rfl) rfl ?_
        refine RS.off (dj := 77) rfl (.inl (congrArg Value.bool hb21)) (fun _ => rfl) rfl ?_
        refine RS.off (dj := 77) rfl (.inl (congrArg Value.bool hb21)) (fun _ => rfl) rfl ?_
        refine RS.off (dj := 77) rfl (.inl (congrArg Value.bool hb21)) (fun _ => rfl) rfl ?_
        refine RS.off (dj := 77) rfl (.inl (congrArg Value.bool hb21)) (fun _ => rfl) rfl ?_
        refine RS.off (dj := 77) rfl (.inl (congrArg Value.bool hb21)) (fun _ => rfl) rfl ?_
        refine RS.q rfl (QO.pickT (by rfl) hb21 (by rfl)) ?_
        refine RS.nil ?_
        refine thenC_n ?_
        refine CS.condT (by rfl) rfl ?_
        refine CS.seq ?_
        refine CS.region ?_
        refine RS.q rfl (QO.assign) ?_
        refine RS.nil ?_
        refine thenC_n ?_
        refine CS.ret ?_
        refine blockC_r ?_
        refine thenC_r ?_
        refine loopQ_r ?_
        refine blockC_r ?_
        refine thenC_r ?_
        refine retQ.mk (H' := []) (.inr rfl) (RVs.tmp (by rfl) RVs.nil) (List.nil_sublist _) ?_
        exact ⟨congrArg iv (endE (by omega) hz (by omega) (frE1_5 hkf hka (by omega) (by omega) (by omega) (by omega) (.inl (by omega))) (by omega)).symm, rfl⟩
      refine RS.on (dj := 77) rfl (congrArg Value.bool hb21) ?_
      refine RS.q rfl (QO.fieldAddr fo67_2 (by rfl)) ?_
      refine RS.on (dj := 77) rfl (congrArg Value.bool hb21) ?_
      refine RS.q rfl (QO.fieldAddr fo61_6 (by rfl)) ?_
      refine RS.on (dj := 77) rfl (congrArg Value.bool hb21) ?_
      refine RS.q rfl (QO.load ty59 (by rfl) (by repeat (first | exact List.Mem.head _ | refine List.Mem.tail _ ?_)) (by rfl)) ?_
      refine RS.on (dj := 77) rfl (congrArg Value.bool hb21) ?_
      refine RS.q rfl (QO.lenS Try.underlying59 (by rfl)) ?_
      refine RS.on (dj := 77) rfl (congrArg Value.bool hb21) ?_
      refine RS.q rfl (QO.fieldAddr fo61_6 (by rfl)) ?_
      refine RS.on (dj := 77) rfl (congrArg Value.bool hb21) ?_
      refine RS.q rfl (QO.load ty59 (by rfl) (by repeat (first | exact List.Mem.head _ | refine List.Mem.tail _ ?_)) (by rfl)) ?_
      refine RS.on (dj := 77) rfl (congrArg Value.bool hb21) ?_
      refine RS.q rfl (QO.lenS Try.underlying59 (by rfl)) ?_
      refine RS.on (dj := 77) rfl (congrArg Value.bool hb21) ?_
      refine RS.q rfl (QO.neq (by rfl) (by rfl)) ?_
      refine RS.q rfl (QO.pickF (by rfl) hb21 (by rfl)) ?_
      refine RS.nil ?_
      refine thenC_n ?_
      refine CS.cond (by rfl) (fun hb22 => ?_) (fun hb22 => ?_)
      · have hb22p := bne_iff_ne.1 hb22
        refine CS.seq ?_
        refine CS.region ?_
        refine RS.q rfl (QO.assign) ?_
        refine RS.nil ?_
        refine thenC_n ?_
        refine CS.ret ?_
        refine blockC_r ?_
        refine thenC_r ?_
        refine loopQ_r ?_
        refine blockC_r ?_
        refine thenC_r ?_
        refine retQ.mk (H' := []) (.inr rfl) (RVs.tmp (by rfl) RVs.nil) (List.nil_sublist _) ?_
        exact ⟨congrArg iv (endE (by omega) hz (by omega) (frE1_5 hkf hka (by omega) (by omega) (by omega) (by omega) (.inl (by omega))) (by omega)).symm, rfl⟩
      have hb22p := of_bne_false hb22
      refine CS.skip ?_
      refine blockC_n ?_
      refine thenC_n ?_
      refine CS.region ?_
      refine RS.q rfl (QO.add (by rfl) (by rfl) (by omega) (by omega)) ?_
      refine RS.q rfl (QO.move) ?_
      refine RS.nil ?_
      refine loopQ_n (by intro t ht; repeat (first | with_reducible exact rfl | exact frame_puts ht (frame_mix ht) _ rfl | (refine frame_put rfl ht ?_) | (refine frame_puts ht ?_ _ rfl) | exact frame_mix ht | (refine frame_mix2 rfl ht ?_) | exact rfl)) ?_
      exact ⟨k + 1, ⟨by omega, firstE_suc hz (frE1_0 hkf hka (by omega) (by omega) (by omega) (by omega) (no3 (by omega) (bne_F (by assumption)) (by omega)))⟩, by omega, (by repeat (first | exact kn_nil | refine kn_cons (by rfl) ?_)), (by repeat (first | exact List.Sublist.refl _ | exact List.nil_sublist _ | refine List.Sublist.cons_cons _ ?_ | refine List.Sublist.cons _ ?_ | exact Sbp.refl | exact Sbp.nil | refine Sbp.cons (by repeat (first | exact Rem.head | apply Rem.tail)) ?_ | exact Sbp.app | refine Sbp.skip ?_))⟩
    have hb3p := of_decide_eq_false hb3
    refine RT.takeOn (i := 4) (dj := 27) rfl rfl (congrArg Value.bool hb3) (by kernel_rfl) rfl (QO.fieldAddr fo67_0 (by rfl)) ?_
    refine RT.takeOn (i := 5) (dj := 27) rfl rfl (congrArg Value.bool hb3) (by kernel_rfl) rfl (QO.load ty3 (by rfl) (by repeat (first | exact List.Mem.head _ | refine List.Mem.tail _ ?_)) (by rfl)) ?_
    refine RT.takeOn (i := 6) (dj := 27) rfl rfl (congrArg Value.bool hb3) (by kernel_rfl) rfl (QO.gtr (by rfl) (by rfl)) ?_
    refine RT.takev (i := 7) rfl (by kernel_rfl) rfl (QO.pickF (by rfl) hb3 (by rfl)) (congrArg Value.bool (show _ = decide (kf.frame < 0 ∨ 16777216 < kf.frame) from by first | exact orD_T (p := kf.frame < 0) (q := 16777216 < kf.frame) (by assumption) | exact orD_F (p := kf.frame < 0) (q := 16777216 < kf.frame) (by assumption))) ?_
    refine RT.take (i := 9) rfl (by kernel_rfl) rfl (QO.fieldAddr fo67_1 (by rfl)) ?_
    refine RT.take (i := 10) rfl (by kernel_rfl) rfl (QO.load ty3 (by rfl) (by repeat (first | exact List.Mem.head _ | refine List.Mem.tail _ ?_)) (by rfl)) ?_
    refine RT.take (i := 11) rfl (by kernel_rfl) rfl (QO.lss (by rfl) (by rfl)) ?_
    refine RT.take (i := 18) rfl (by kernel_rfl) rfl (QO.fieldAddr fo67_2 (by rfl)) ?_
    refine RT.take (i := 19) rfl (by kernel_rfl) rfl (QO.loadA ty61 (by rfl) (by repeat (first | exact List.Mem.head _ | refine List.Mem.tail _ ?_)) (by rfl) (by rfl)) ?_
    refine RT.one (i := 8) (by kernel_rfl) rfl rfl ?_
    refine RS.call rfl (by rfl) ok62 (by rfl) (fun w ho => when _ _ _) ?_
    rintro _ _ ⟨rfl, rfl⟩
    refine RS.nil ⟨(by repeat (first | exact List.Sublist.refl _ | exact List.nil_sublist _ | refine List.Sublist.cons_cons _ ?_ | refine List.Sublist.cons _ ?_ | exact Sbp.refl | exact Sbp.nil | refine Sbp.cons (by repeat (first | exact Rem.head | apply Rem.tail)) ?_ | exact Sbp.app | refine Sbp.skip ?_)), ?_⟩
    refine RT.take (i := 12) rfl (by kernel_rfl) rfl (QO.move) ?_
    refine RT.split (dj := 36) (by rfl) (fun hb23 => ?_) (fun hb23 => ?_)
    · have hb23p := of_decide_eq_true hb23
      refine RT.takeOff (i := 13) (dj := 36) rfl rfl (.inl (congrArg Value.bool hb23)) (fun _ => rfl) (by kernel_rfl) rfl ?_
      refine RT.takeOff (i := 14) (dj := 36) rfl rfl (.inl (congrArg Value.bool hb23)) (fun _ => rfl) (by kernel_rfl) rfl ?_
      refine RT.takeOff (i := 15) (dj := 36) rfl rfl (.inl (congrArg Value.bool hb23)) (fun _ => rfl) (by kernel_rfl) rfl ?_
      refine RT.takev (i := 16) rfl (by kernel_rfl) rfl (QO.pickT (by rfl) hb23 (by rfl)) (congrArg Value.bool (show _ = decide (kf.ease < 1 ∨ 3 < kf.ease) from by first | exact orD_T (p := kf.ease < 1) (q := 3 < kf.ease) (by assumption) | exact orD_F (p := kf.ease < 1) (q := 3 < kf.ease) (by assumption))) ?_
      refine RT.one (i := 17) (by kernel_rfl) rfl rfl ?_
      refine RS.call rfl (by rfl) ok62 (by rfl) (fun w ho => when _ _ _) ?_
      rintro _ _ ⟨rfl, rfl⟩
      refine RS.nil ⟨(by repeat (first | exact List.Sublist.refl _ | exact List.nil_sublist _ | refine List.Sublist.cons_cons _ ?_ | refine List.Sublist.cons _ ?_ | exact Sbp.refl | exact Sbp.nil | refine Sbp.cons (by repeat (first | exact Rem.head | apply Rem.tail)) ?_ | exact Sbp.app | refine Sbp.skip ?_)), ?_⟩
      refine RT.one (i := 20) (by kernel_rfl) rfl rfl ?_
      refine RS.call rfl (by rfl) ok69 (by rfl) (fun w ho => windowError kf.win kf.A kf.c _ (hok.1.own ho) hok.2) ?_
      rintro _ _ ⟨rfl, rfl⟩
      refine RS.nil ⟨(by repeat (first | exact List.Sublist.refl _ | exact List.nil_sublist _ | refine List.Sublist.cons_cons _ ?_ | refine List.Sublist.cons _ ?_ | exact Sbp.refl | exact Sbp.nil | refine Sbp.cons (by repeat (first | exact Rem.head | apply Rem.tail)) ?_ | exact Sbp.app | refine Sbp.skip ?_)), ?_⟩
      refine RT.one (i := 21) (by kernel_rfl) rfl rfl ?_
      refine RS.buildSlice rfl Try.underlying176 ty32 (by decide) (by decide) (by rfl) (by rfl) ?_
      intro g45
      refine RS.nil ⟨(by repeat (first | exact List.Sublist.refl _ | exact List.nil_sublist _ | refine List.Sublist.cons_cons _ ?_ | refine List.Sublist.cons _ ?_ | exact Sbp.refl | exact Sbp.nil | refine Sbp.cons (by repeat (first | exact Rem.head | apply Rem.tail)) ?_ | exact Sbp.app | refine Sbp.skip ?_)), ?_⟩
      refine RT.one (i := 22) (by kernel_rfl) rfl rfl ?_
      refine RS.call rfl (by rfl) ok68 (by rfl) (fun w ho => first3k kf g45 _ (cellOwn ho (by repeat (first | exact List.Mem.head _ | refine List.Mem.tail _ ?_)))) ?_
      rintro _ _ ⟨rfl, rfl⟩
      refine RS.nil ⟨(by repeat (first | exact List.Sublist.refl _ | exact List.nil_sublist _ | refine List.Sublist.cons_cons _ ?_ | refine List.Sublist.cons _ ?_ | exact Sbp.refl | exact Sbp.nil | refine Sbp.cons (by repeat (first | exact Rem.head | apply Rem.tail)) ?_ | exact Sbp.app | refine Sbp.skip ?_)), ?_⟩
      refine RT.take (i := 23) rfl (by kernel_rfl) rfl (QO.assign) ?_
      refine RT.done (by kernel_rfl) ?_
      refine thenC_n ?_
      refine CS.seq ?_
      refine CS.seq ?_
      refine CS.region ?_
      refine RS.q rfl (QO.move) ?_
      refine RS.q rfl (QO.neq (by rfl) (by rfl)) ?_
      refine RS.nil ?_
      refine thenC_n ?_
      refine CS.cond (by rfl) (fun hb24 => ?_) (fun hb24 => ?_)
      · have hb24p := bne_iff_ne.1 hb24
        refine CS.seq ?_
        refine CS.region ?_
        refine RS.q rfl (QO.move) ?_
        refine RS.q rfl (QO.assign) ?_
        refine RS.nil ?_
        refine thenC_n ?_
        refine CS.ret ?_
        refine thenC_r ?_
        refine blockC_r ?_
        refine thenC_r ?_
        refine loopQ_r ?_
        refine blockC_r ?_
        refine thenC_r ?_
        refine retQ.mk (H' := []) (.inr rfl) (RVs.tmp (by rfl) RVs.nil) (List.nil_sublist _) ?_
        exact ⟨congrArg iv (endE (by omega) hz (by omega) (e3_ne hkf (by assumption)) (by assumption)).symm, rfl⟩
      have hb24p := of_bne_false hb24
      refine CS.skip ?_
      refine thenC_n ?_
      refine CS.seq ?_
      refine CS.seq ?_
      refine CS.draw 13 rfl (by kernel_rfl) (by kernel_rfl) ?_
      obtain ⟨q1, q2, q3⟩ := e3_0 (k := kf) (by assumption)
      refine RT.take (i := 0) rfl (by kernel_rfl) rfl (QO.move) ?_
      refine RT.take (i := 1) rfl (by kernel_rfl) rfl (QO.gtr (by rfl) (by rfl)) ?_
      refine RT.take (i := 2) rfl (by kernel_rfl) rfl (QO.move) ?_
      refine RT.split (dj := 52) (by rfl) (fun hb25 => ?_) (fun hb25 => ?_)
      · have hb25p := of_decide_eq_true hb25
        refine RT.takeOn (i := 3) (dj := 52) rfl rfl (congrArg Value.bool hb25) (by kernel_rfl) rfl (QO.fieldAddr fo67_0 (by rfl)) ?_
        refine RT.takeOn (i := 4) (dj := 52) rfl rfl (congrArg Value.bool hb25) (by kernel_rfl) rfl (QO.load ty3 (by rfl) (by repeat (first | exact List.Mem.head _ | refine List.Mem.tail _ ?_)) (by rfl)) ?_
        refine RT.takeOn (i := 5) (dj := 52) rfl rfl (congrArg Value.bool hb25) (by kernel_rfl) rfl (QO.move) ?_
        refine RT.takeOn (i := 6) (dj := 52) rfl rfl (congrArg Value.bool hb25) (by kernel_rfl) rfl (QO.move) ?_
        refine RT.takeOn (i := 7) (dj := 52) rfl rfl (congrArg Value.bool hb25) (by kernel_rfl) rfl (QO.sub (by rfl) (by rfl) (by omega) (by omega)) ?_
        have hp0 := hA.frame (i := k - 1) (show k - 1 < l.length by omega) (q := oA + ((k : Int) - 1).toNat * 10 + 0) (by omega)
        refine RT.takeOn (i := 8) (dj := 52) rfl rfl (congrArg Value.bool hb25) (by kernel_rfl) rfl (QO.idx Try.underlying57 ty67 (by rfl) (by rfl) (by omega) (by omega)) ?_
        refine RT.takeOn (i := 9) (dj := 52) rfl rfl (congrArg Value.bool hb25) (by kernel_rfl) rfl (QO.fieldAddr fo67_0 (by rfl)) ?_
        refine RT.takeOn (i := 10) (dj := 52) rfl rfl (congrArg Value.bool hb25) (by kernel_rfl) rfl (QO.loadO ty3 (by rfl) hp0) ?_
        refine RT.takeOn (i := 11) (dj := 52) rfl rfl (congrArg Value.bool hb25) (by kernel_rfl) rfl (QO.leq (by rfl) (by rfl)) ?_
        refine RT.take (i := 12) rfl (by kernel_rfl) rfl (QO.pickT (by rfl) hb25 (by rfl)) ?_
        refine RT.done (by kernel_rfl) ?_
        refine thenC_n ?_
        refine CS.cond (by rfl) (fun hb26 => ?_) (fun hb26 => ?_)
        · have hb26p := of_decide_eq_true hb26
          refine CS.seq ?_
          refine CS.region ?_
          refine RS.q rfl (QO.assign) ?_
          refine RS.nil ?_
          refine thenC_n ?_
          refine CS.ret ?_
          refine thenC_r ?_
          refine blockC_r ?_
          refine thenC_r ?_
          refine loopQ_r ?_
          refine blockC_r ?_
          refine thenC_r ?_
          refine retQ.mk (H' := []) (.inr rfl) (RVs.tmp (by rfl) RVs.nil) (List.nil_sublist _) ?_
          exact ⟨congrArg iv (endE (by omega) hz (by omega) (frE1_4 hkf (by omega) (by omega) (by omega) (by omega) rfl (by omega)) (by omega)).symm, rfl⟩
        have hb26p := of_decide_eq_false hb26
        refine CS.skip ?_
        refine thenC_n ?_
        refine CS.seq ?_
        refine CS.region ?_
        refine RS.q rfl (QO.fieldAddr fo67_2 (by rfl)) ?_
        refine RS.q rfl (QO.fieldAddr fo61_0 (by rfl)) ?_
        refine RS.q rfl (QO.load ty3 (by rfl) (by repeat (first | exact List.Mem.head _ | refine List.Mem.tail _ ?_)) (by rfl)) ?_
        refine RS.q rfl (QO.fieldAddr fo61_0 (by rfl)) ?_
        refine RS.q rfl (QO.load ty3 (by rfl) (by repeat (first | exact List.Mem.head _ | refine List.Mem.tail _ ?_)) (by rfl)) ?_
        refine RS.q rfl (QO.neq (by rfl) (by rfl)) ?_
        refine RS.q rfl (QO.move) ?_
        refine RS.split (dj := 69) (by rfl) (fun hb27 => ?_) (fun hb27 => ?_)
        · have hb27p := bne_iff_ne.1 hb27
          refine RS.off (dj := 69) rfl (.inl (congrArg Value.bool hb27)) (fun _ => rfl) rfl ?_
          refine RS.off (dj := 69) rfl (.inl (congrArg Value.bool hb27)) (fun _ => rfl) rfl ?_
          refine RS.off (dj := 69) rfl (.inl (congrArg Value.bool hb27)) (fun _ => rfl) rfl ?_
          refine RS.off (dj := 69) rfl (.inl (congrArg Value.bool hb27)) (fun _ => rfl) rfl ?_
          refine RS.off (dj := 69) rfl (.inl (congrArg Value.bool hb27)) (fun _ => rfl) rfl ?_
          refine RS.off (dj := 69) rfl (.inl (congrArg Value.bool hb27)) (fun _ => rfl) rfl ?_
          refine RS.q rfl (QO.pickT (by rfl) hb27 (by rfl)) ?_
          refine RS.q rfl (QO.move) ?_
          refine RS.off (dj := 77) rfl (.inl (congrArg Value.bool rfl)) (fun _ => rfl) rfl ?_
          refine RS.off (dj := 77) rfl (.inl (congrArg Value.bool rfl)) (fun _ => rfl) rfl ?_
          refine RS.off (dj := 77) rfl (.inl (congrArg Value.bool rfl)) (fun _ => rfl) rfl ?_
          refine RS.off (dj := 77) rfl (.inl (congrArg Value.bool rfl)) (fun _ => rfl) rfl ?_
          refine RS.off (dj := 77) rfl (.inl (congrArg Value.bool rfl)) (fun _ => rfl) rfl ?_
          refine RS.off (dj := 77) rfl (.inl (congrArg Value.bool rfl)) (fun _ => rfl) rfl ?_
          refine RS.off (dj := 77) rfl (.inl (congrArg Value.bool rfl)) (fun _ => rfl) rfl ?_
          refine RS.off (dj := 77) rfl (.inl (congrArg Value.bool rfl)) (fun _ => rfl) rfl ?_
          refine RS.q rfl (QO.pickT (by rfl) rfl (by rfl)) ?_
          refine RS.nil ?_
          refine thenC_n ?_
          refine CS.condT (by rfl) rfl ?_
          refine CS.seq ?_
          refine CS.region ?_
          refine RS.q rfl (QO.assign) ?_
          refine RS.nil ?_
          refine thenC_n ?_
          refine CS.ret ?_
          refine blockC_r ?_
          refine thenC_r ?_
          refine loopQ_r ?_
          refine blockC_r ?_
          refine thenC_r ?_
          refine retQ.mk (H' := []) (.inr rfl) (RVs.tmp (by rfl) RVs.nil) (List.nil_sublist _) ?_
          exact ⟨congrArg iv (endE (by omega) hz (by omega) (frE1_5 hkf hka (by omega) (by omega) (by omega) (by omega) (.inl (by omega))) (by omega)).symm, rfl⟩
        have hb27p := of_bne_false hb27
        refine RS.on (dj := 69) rfl (congrArg Value.bool hb27) ?_
        refine RS.q rfl (QO.fieldAddr fo67_2 (by rfl)) ?_
        refine RS.on (dj := 69) rfl (congrArg Value.bool hb27) ?_
        refine RS.q rfl (QO.fieldAddr fo61_7 (by rfl)) ?_
        refine RS.on (dj := 69) rfl (congrArg Value.bool hb27) ?_
        refine RS.q rfl (QO.load ty4 (by rfl) (by repeat (first | exact List.Mem.head _ | refine List.Mem.tail _ ?_)) (by rfl)) ?_
        refine RS.on (dj := 69) rfl (congrArg Value.bool hb27) ?_
        refine RS.q rfl (QO.fieldAddr fo61_7 (by rfl)) ?_
        refine RS.on (dj := 69) rfl (congrArg Value.bool hb27) ?_
        refine RS.q rfl (QO.load ty4 (by rfl) (by repeat (first | exact List.Mem.head _ | refine List.Mem.tail _ ?_)) (by rfl)) ?_
        refine RS.on (dj := 69) rfl (congrArg Value.bool hb27) ?_
        refine RS.q rfl (QO.bneq Try.underlying4 (by rfl) (by rfl)) ?_
        refine RS.q rfl (QO.pickF (by rfl) hb27 (by rfl)) ?_
        refine RS.q rfl (QO.move) ?_
        refine RS.split (dj := 77) (by rfl) (fun hb28 => ?_) (fun hb28 => ?_)
        · refine RS.off (dj := 77) rfl (.inl (congrArg Value.bool hb28)) (fun _ => rfl) rfl ?_
          refine RS.off (dj := 77) rfl (.inl (congrArg Value.bool hb28)) (fun _ => rfl) rfl ?_
          refine RS.off (dj := 77) rfl (.inl (congrArg Value.bool hb28)) (fun _ => rfl) rfl ?_
          refine RS.off (dj := 77) rfl (.inl (congrArg Value.bool hb28)) (fun _ => rfl) rfl ?_
          refine RS.off (dj := 77) rfl (.inl (congrArg Value.bool hb28)) (fun _ => rfl) rfl ?_
          refine RS.off (dj := 77) rfl (.inl (congrArg Value.bool hb28)) (fun _ => rfl) rfl ?_
          refine RS.off (dj := 77) rfl (.inl (congrArg Value.bool hb28)) (fun _ => rfl) rfl ?_
          refine RS.off (dj := 77) rfl (.inl (congrArg Value.bool hb28)) (fun _ => rfl) rfl ?_
          refine RS.q rfl (QO.pickT (by rfl) hb28 (by rfl)) ?_
          refine RS.nil ?_
          refine thenC_n ?_
          refine CS.condT (by rfl) rfl ?_
          refine CS.seq ?_
          refine CS.region ?_
          refine RS.q rfl (QO.assign) ?_
          refine RS.nil ?_
          refine thenC_n ?_
          refine CS.ret ?_
          refine blockC_r ?_
          refine thenC_r ?_
          refine loopQ_r ?_
          refine blockC_r ?_
          refine thenC_r ?_
          refine retQ.mk (H' := []) (.inr rfl) (RVs.tmp (by rfl) RVs.nil) (List.nil_sublist _) ?_
          exact ⟨congrArg iv (endE (by omega) hz (by omega) (frE1_5 hkf hka (by omega) (by omega) (by omega) (by omega) (.inl (by omega))) (by omega)).symm, rfl⟩
        refine RS.on (dj := 77) rfl (congrArg Value.bool hb28) ?_
        refine RS.q rfl (QO.fieldAddr fo67_2 (by rfl)) ?_
        refine RS.on (dj := 77) rfl (congrArg Value.bool hb28) ?_
        refine RS.q rfl (QO.fieldAddr fo61_6 (by rfl)) ?_
        refine RS.on (dj := 77) rfl (congrArg Value.bool hb28) ?_
        refine RS.q rfl (QO.load ty59 (by rfl) (by repeat (first | exact List.Mem.head _ | refine List.Mem.tail _ ?_)) (by rfl)) ?_
        refine RS.on (dj := 77) rfl (congrArg Value.bool hb28) ?_
        refine RS.q rfl (QO.lenS Try.underlying59 (by rfl)) ?_
        refine RS.on (dj := 77) rfl (congrArg Value.bool hb28) ?_
        refine RS.q rfl (QO.fieldAddr fo61_6 (by rfl)) ?_
        refine RS.on (dj := 77) rfl (congrArg Value.bool hb28) ?_
        refine RS.q rfl (QO.load ty59 (by rfl) (by repeat (first | exact List.Mem.head _ | refine List.Mem.tail _ ?_)) (by rfl)) ?_
        refine RS.on (dj := 77) rfl (congrArg Value.bool hb28) ?_
        refine RS.q rfl (QO.lenS Try.underlying59 (by rfl)) ?_
        refine RS.on (dj := 77) rfl (congrArg Value.bool hb28) ?_
        refine RS.q rfl (QO.neq (by rfl) (by rfl)) ?_
        refine RS.q rfl (QO.pickF (by rfl) hb28 (by rfl)) ?_
        refine RS.nil ?_
        refine thenC_n ?_
        refine CS.cond (by rfl) (fun hb29 => ?_) (fun hb29 => ?_)
        · have hb29p := bne_iff_ne.1 hb29
          refine CS.seq ?_
          refine CS.region ?_
          refine RS.q rfl (QO.assign) ?_
          refine RS.nil ?_
          refine thenC_n ?_
          refine CS.ret ?_
          refine blockC_r ?_
          refine thenC_r ?_
          refine loopQ_r ?_
          refine blockC_r ?_
          refine thenC_r ?_
          refine retQ.mk (H' := []) (.inr rfl) (RVs.tmp (by rfl) RVs.nil) (List.nil_sublist _) ?_
          exact ⟨congrArg iv (endE (by omega) hz (by omega) (frE1_5 hkf hka (by omega) (by omega) (by omega) (by omega) (.inl (by omega))) (by omega)).symm, rfl⟩
        have hb29p := of_bne_false hb29
        refine CS.skip ?_
        refine blockC_n ?_
        refine thenC_n ?_
        refine CS.region ?_
        refine RS.q rfl (QO.add (by rfl) (by rfl) (by omega) (by omega)) ?_
        refine RS.q rfl (QO.move) ?_
        refine RS.nil ?_
        refine loopQ_n (by intro t ht; repeat (first | with_reducible exact rfl | exact frame_puts ht (frame_mix ht) _ rfl | (refine frame_put rfl ht ?_) | (refine frame_puts ht ?_ _ rfl) | exact frame_mix ht | (refine frame_mix2 rfl ht ?_) | exact rfl)) ?_
        exact ⟨k + 1, ⟨by omega, firstE_suc hz (frE1_0 hkf hka (by omega) (by omega) (by omega) (by omega) (no3 (by omega) (bne_F (by assumption)) (by omega)))⟩, by omega, (by repeat (first | exact kn_nil | refine kn_cons (by rfl) ?_)), (by repeat (first | exact List.Sublist.refl _ | exact List.nil_sublist _ | refine List.Sublist.cons_cons _ ?_ | refine List.Sublist.cons _ ?_ | exact Sbp.refl | exact Sbp.nil | refine Sbp.cons (by repeat (first | exact Rem.head | apply Rem.tail)) ?_ | exact Sbp.app | refine Sbp.skip ?_))⟩
      have hb25p := of_decide_eq_false hb25
      refine RT.takeOff (i := 3) (dj := 52) rfl rfl (.inl (congrArg Value.bool hb25)) (fun _ => rfl) (by kernel_rfl) rfl ?_
      refine RT.takeOff (i := 4) (dj := 52) rfl rfl (.inl (congrArg Value.bool hb25)) (fun _ => rfl) (by kernel_rfl) rfl ?_
      refine RT.takeOff (i := 5) (dj := 52) rfl rfl (.inl (congrArg Value.bool hb25)) (fun _ => rfl) (by kernel_rfl) rfl ?_
      refine RT.takeOff (i := 6) (dj := 52) rfl rfl (.inl (congrArg Value.bool hb25)) (fun _ => rfl) (by kernel_rfl) rfl ?_
      refine RT.takeOff (i := 7) (dj := 52) rfl rfl (.inl (congrArg Value.bool hb25)) (fun _ => rfl) (by kernel_rfl) rfl ?_
      refine RT.takeOff (i := 8) (dj := 52) rfl rfl (.inl (congrArg Value.bool hb25)) (fun _ => rfl) (by kernel_rfl) rfl ?_
      refine RT.takeOff (i := 9) (dj := 52) rfl rfl (.inl (congrArg Value.bool hb25)) (fun _ => rfl) (by kernel_rfl) rfl ?_
      refine RT.takeOff (i := 10) (dj := 52) rfl rfl (.inl (congrArg Value.bool hb25)) (fun _ => rfl) (by kernel_rfl) rfl ?_
      refine RT.takeOff (i := 11) (dj := 52) rfl rfl (.inl (congrArg Value.bool hb25)) (fun _ => rfl) (by kernel_rfl) rfl ?_
      refine RT.take (i := 12) rfl (by kernel_rfl) rfl (QO.pickF (by rfl) hb25 (by rfl)) ?_
      refine RT.done (by kernel_rfl) ?_
      refine thenC_n ?_
      refine CS.condF (by rfl) rfl ?_
      refine CS.skip ?_
      refine thenC_n ?_
      refine CS.seq ?_
      refine CS.region ?_
      refine RS.q rfl (QO.fieldAddr fo67_2 (by rfl)) ?_
      refine RS.q rfl (QO.fieldAddr fo61_0 (by rfl)) ?_
      refine RS.q rfl (QO.load ty3 (by rfl) (by repeat (first | exact List.Mem.head _ | refine List.Mem.tail _ ?_)) (by rfl)) ?_
      refine RS.q rfl (QO.fieldAddr fo61_0 (by rfl)) ?_
      refine RS.q rfl (QO.load ty3 (by rfl) (by repeat (first | exact List.Mem.head _ | refine List.Mem.tail _ ?_)) (by rfl)) ?_
      refine RS.q rfl (QO.neq (by rfl) (by rfl)) ?_
      refine RS.q rfl (QO.move) ?_
      refine RS.split (dj := 69) (by rfl) (fun hb30 => ?_) (fun hb30 => ?_)
      · have hb30p := bne_iff_ne.1 hb30
        refine RS.off (dj := 69) rfl (.inl (congrArg Value.bool hb30)) (fun _ => rfl) rfl ?_
        refine RS.off (dj := 69) rfl (.inl (congrArg Value.bool hb30)) (fun _ => rfl) rfl ?_
        refine RS.off (dj := 69) rfl (.inl (congrArg Value.bool hb30)) (fun _ => rfl) rfl ?_
        refine RS.off (dj := 69) rfl (.inl (congrArg Value.bool hb30)) (fun _ => rfl) rfl ?_
        refine RS.off (dj := 69) rfl (.inl (congrArg Value.bool hb30)) (fun _ => rfl) rfl ?_
        refine RS.off (dj := 69) rfl (.inl (congrArg Value.bool hb30)) (fun _ => rfl) rfl ?_
        refine RS.q rfl (QO.pickT (by rfl) hb30 (by rfl)) ?_
        refine RS.q rfl (QO.move) ?_
        refine RS.off (dj := 77) rfl (.inl (congrArg Value.bool rfl)) (fun _ => rfl) rfl ?_
        refine RS.off (dj := 77) rfl (.inl (congrArg Value.bool rfl)) (fun _ => rfl) rfl ?_
        refine RS.off (dj := 77) rfl (.inl (congrArg Value.bool rfl)) (fun _ => rfl) rfl ?_
        refine RS.off (dj := 77) rfl (.inl (congrArg Value.bool rfl)) (fun _ => rfl) rfl ?_
        refine RS.off (dj := 77) rfl (.inl (congrArg Value.bool rfl)) (fun _ => rfl) rfl ?_
        refine RS.off (dj := 77) rfl (.inl (congrArg Value.bool rfl)) (fun _ => rfl) rfl ?_
        refine RS.off (dj := 77) rfl (.inl (congrArg Value.bool rfl)) (fun _ => rfl) rfl ?_
        refine RS.off (dj := 77) rfl (.inl (congrArg Value.bool rfl)) (fun _ => rfl) rfl ?_
        refine RS.q rfl (QO.pickT (by rfl) rfl (by rfl)) ?_
        refine RS.nil ?_
        refine thenC_n ?_
        refine CS.condT (by rfl) rfl ?_
        refine CS.seq ?_
        refine CS.region ?_
        refine RS.q rfl (QO.assign) ?_
        refine RS.nil ?_
        refine thenC_n ?_
        refine CS.ret ?_
        refine blockC_r ?_
        refine thenC_r ?_
        refine loopQ_r ?_
        refine blockC_r ?_
        refine thenC_r ?_
        refine retQ.mk (H' := []) (.inr rfl) (RVs.tmp (by rfl) RVs.nil) (List.nil_sublist _) ?_
        exact ⟨congrArg iv (endE (by omega) hz (by omega) (frE1_5 hkf hka (by omega) (by omega) (by omega) (by omega) (.inl (by omega))) (by omega)).symm, rfl⟩
      have hb30p := of_bne_false hb30
      refine RS.on (dj := 69) rfl (congrArg Value.bool hb30) ?_
      refine RS.q rfl (QO.fieldAddr fo67_2 (by rfl)) ?_
      refine RS.on (dj := 69) rfl (congrArg Value.bool hb30) ?_
      refine RS.q rfl (QO.fieldAddr fo61_7 (by rfl)) ?_
      refine RS.on (dj := 69) rfl (congrArg Value.bool hb30) ?_
      refine RS.q rfl (QO.load ty4 (by rfl) (by repeat (first | exact List.Mem.head _ | refine List.Mem.tail _ ?_)) (by rfl)) ?_
      refine RS.on (dj := 69) rfl (congrArg Value.bool hb30) ?_
      refine RS.q rfl (QO.fieldAddr fo61_7 (by rfl)) ?_
      refine RS.on (dj := 69) rfl (congrArg Value.bool hb30) ?_
      refine RS.q rfl (QO.load ty4 (by rfl) (by repeat (first | exact List.Mem.head _ | refine List.Mem.tail _ ?_)) (by rfl)) ?_
      refine RS.on (dj := 69) rfl (congrArg Value.bool hb30) ?_
      refine RS.q rfl (QO.bneq Try.underlying4 (by rfl) (by rfl)) ?_
      refine RS.q rfl (QO.pickF (by rfl) hb30 (by rfl)) ?_
      refine RS.q rfl (QO.move) ?_
      refine RS.split (dj := 77) (by rfl) (fun hb31 => ?_) (fun hb31 => ?_)
      · refine RS.off (dj := 77) rfl (.inl (congrArg Value.bool hb31)) (fun _ => rfl) rfl ?_
        refine RS.off (dj := 77) rfl (.inl (congrArg Value.bool hb31)) (fun _ => rfl) rfl ?_
        refine RS.off (dj := 77) rfl (.inl (congrArg Value.bool hb31)) (fun _ => rfl) rfl ?_
        refine RS.off (dj := 77) rfl (.inl (congrArg Value.bool hb31)) (fun _ => rfl) rfl ?_
        refine RS.off (dj := 77) rfl (.inl (congrArg Value.bool hb31)) (fun _ => rfl) rfl ?_
        refine RS.off (dj := 77) rfl (.inl (congrArg Value.bool hb31)) (fun _ => rfl) rfl ?_
        refine RS.off (dj := 77) rfl (.inl (congrArg Value.bool hb31)) (fun _ => rfl) rfl ?_
        refine RS.off (dj := 77) rfl (.inl (congrArg Value.bool hb31)) (fun _ => rfl) rfl ?_
        refine RS.q rfl (QO.pickT (by rfl) hb31 (by rfl)) ?_
        refine RS.nil ?_
        refine thenC_n ?_
        refine CS.condT (by rfl) rfl ?_
        refine CS.seq ?_
        refine CS.region ?_
        refine RS.q rfl (QO.assign) ?_
        refine RS.nil ?_
        refine thenC_n ?_
        refine CS.ret ?_
        refine blockC_r ?_
        refine thenC_r ?_
        refine loopQ_r ?_
        refine blockC_r ?_
        refine thenC_r ?_
        refine retQ.mk (H' := []) (.inr rfl) (RVs.tmp (by rfl) RVs.nil) (List.nil_sublist _) ?_
        exact ⟨congrArg iv (endE (by omega) hz (by omega) (frE1_5 hkf hka (by omega) (by omega) (by omega) (by omega) (.inl (by omega))) (by omega)).symm, rfl⟩
      refine RS.on (dj := 77) rfl (congrArg Value.bool hb31) ?_
      refine RS.q rfl (QO.fieldAddr fo67_2 (by rfl)) ?_
      refine RS.on (dj := 77) rfl (congrArg Value.bool hb31) ?_
      refine RS.q rfl (QO.fieldAddr fo61_6 (by rfl)) ?_
      refine RS.on (dj := 77) rfl (congrArg Value.bool hb31) ?_
      refine RS.q rfl (QO.load ty59 (by rfl) (by repeat (first | exact List.Mem.head _ | refine List.Mem.tail _ ?_)) (by rfl)) ?_
      refine RS.on (dj := 77) rfl (congrArg Value.bool hb31) ?_
      refine RS.q rfl (QO.lenS Try.underlying59 (by rfl)) ?_
      refine RS.on (dj := 77) rfl (congrArg Value.bool hb31) ?_
      refine RS.q rfl (QO.fieldAddr fo61_6 (by rfl)) ?_
      refine RS.on (dj := 77) rfl (congrArg Value.bool hb31) ?_
      refine RS.q rfl (QO.load ty59 (by rfl) (by repeat (first | exact List.Mem.head _ | refine List.Mem.tail _ ?_)) (by rfl)) ?_
      refine RS.on (dj := 77) rfl (congrArg Value.bool hb31) ?_
      refine RS.q rfl (QO.lenS Try.underlying59 (by rfl)) ?_
      refine RS.on (dj := 77) rfl (congrArg Value.bool hb31) ?_
      refine RS.q rfl (QO.neq (by rfl) (by rfl)) ?_
      refine RS.q rfl (QO.pickF (by rfl) hb31 (by rfl)) ?_
      refine RS.nil ?_
      refine thenC_n ?_
      refine CS.cond (by rfl) (fun hb32 => ?_) (fun hb32 => ?_)
      · have hb32p := bne_iff_ne.1 hb32
        refine CS.seq ?_
        refine CS.region ?_
        refine RS.q rfl (QO.assign) ?_
        refine RS.nil ?_
        refine thenC_n ?_
        refine CS.ret ?_
        refine blockC_r ?_
        refine thenC_r ?_
        refine loopQ_r ?_
        refine blockC_r ?_
        refine thenC_r ?_
        refine retQ.mk (H' := []) (.inr rfl) (RVs.tmp (by rfl) RVs.nil) (List.nil_sublist _) ?_
        exact ⟨congrArg iv (endE (by omega) hz (by omega) (frE1_5 hkf hka (by omega) (by omega) (by omega) (by omega) (.inl (by omega))) (by omega)).symm, rfl⟩
      have hb32p := of_bne_false hb32
      refine CS.skip ?_
      refine blockC_n ?_
      refine thenC_n ?_
      refine CS.region ?_
      refine RS.q rfl (QO.add (by rfl) (by rfl) (by omega) (by omega)) ?_
      refine RS.q rfl (QO.move) ?_
      refine RS.nil ?_
      refine loopQ_n (by intro t ht; repeat (first | with_reducible exact rfl | exact frame_puts ht (frame_mix ht) _ rfl | (refine frame_put rfl ht ?_) | (refine frame_puts ht ?_ _ rfl) | exact frame_mix ht | (refine frame_mix2 rfl ht ?_) | exact rfl)) ?_
      exact ⟨k + 1, ⟨by omega, firstE_suc hz (frE1_0 hkf hka (by omega) (by omega) (by omega) (by omega) (no3 (by omega) (bne_F (by assumption)) (by omega)))⟩, by omega, (by repeat (first | exact kn_nil | refine kn_cons (by rfl) ?_)), (by repeat (first | exact List.Sublist.refl _ | exact List.nil_sublist _ | refine List.Sublist.cons_cons _ ?_ | refine List.Sublist.cons _ ?_ | exact Sbp.refl | exact Sbp.nil | refine Sbp.cons (by repeat (first | exact Rem.head | apply Rem.tail)) ?_ | exact Sbp.app | refine Sbp.skip ?_))⟩
    have hb23p := of_decide_eq_false hb23
    refine RT.takeOn (i := 13) (dj := 36) rfl rfl (congrArg Value.bool hb23) (by kernel_rfl) rfl (QO.fieldAddr fo67_1 (by rfl)) ?_
    refine RT.takeOn (i := 14) (dj := 36) rfl rfl (congrArg Value.bool hb23) (by kernel_rfl) rfl (QO.load ty3 (by rfl) (by repeat (first | exact List.Mem.head _ | refine List.Mem.tail _ ?_)) (by rfl)) ?_
    refine RT.takeOn (i := 15) (dj := 36) rfl rfl (congrArg Value.bool hb23) (by kernel_rfl) rfl (QO.gtr (by rfl) (by rfl)) ?_
    refine RT.takev (i := 16) rfl (by kernel_rfl) rfl (QO.pickF (by rfl) hb23 (by rfl)) (congrArg Value.bool (show _ = decide (kf.ease < 1 ∨ 3 < kf.ease) from by first | exact orD_T (p := kf.ease < 1) (q := 3 < kf.ease) (by assumption) | exact orD_F (p := kf.ease < 1) (q := 3 < kf.ease) (by assumption))) ?_
    refine RT.one (i := 17) (by kernel_rfl) rfl rfl ?_
    refine RS.call rfl (by rfl) ok62 (by rfl) (fun w ho => when _ _ _) ?_
    rintro _ _ ⟨rfl, rfl⟩
    refine RS.nil ⟨(by repeat (first | exact List.Sublist.refl _ | exact List.nil_sublist _ | refine List.Sublist.cons_cons _ ?_ | refine List.Sublist.cons _ ?_ | exact Sbp.refl | exact Sbp.nil | refine Sbp.cons (by repeat (first | exact Rem.head | apply Rem.tail)) ?_ | exact Sbp.app | refine Sbp.skip ?_)), ?_⟩
    refine RT.one (i := 20) (by kernel_rfl) rfl rfl ?_
    refine RS.call rfl (by rfl) ok69 (by rfl) (fun w ho => windowError kf.win kf.A kf.c _ (hok.1.own ho) hok.2) ?_
    rintro _ _ ⟨rfl, rfl⟩
    refine RS.nil ⟨(by repeat (first | exact List.Sublist.refl _ | exact List.nil_sublist _ | refine List.Sublist.cons_cons _ ?_ | refine List.Sublist.cons _ ?_ | exact Sbp.refl | exact Sbp.nil | refine Sbp.cons (by repeat (first | exact Rem.head | apply Rem.tail)) ?_ | exact Sbp.app | refine Sbp.skip ?_)), ?_⟩
    refine RT.one (i := 21) (by kernel_rfl) rfl rfl ?_
    refine RS.buildSlice rfl Try.underlying176 ty32 (by decide) (by decide) (by rfl) (by rfl) ?_
    intro g45
    refine RS.nil ⟨(by repeat (first | exact List.Sublist.refl _ | exact List.nil_sublist _ | refine List.Sublist.cons_cons _ ?_ | refine List.Sublist.cons _ ?_ | exact Sbp.refl | exact Sbp.nil | refine Sbp.cons (by repeat (first | exact Rem.head | apply Rem.tail)) ?_ | exact Sbp.app | refine Sbp.skip ?_)), ?_⟩
    refine RT.one (i := 22) (by kernel_rfl) rfl rfl ?_
    refine RS.call rfl (by rfl) ok68 (by rfl) (fun w ho => first3k kf g45 _ (cellOwn ho (by repeat (first | exact List.Mem.head _ | refine List.Mem.tail _ ?_)))) ?_
    rintro _ _ ⟨rfl, rfl⟩
    refine RS.nil ⟨(by repeat (first | exact List.Sublist.refl _ | exact List.nil_sublist _ | refine List.Sublist.cons_cons _ ?_ | refine List.Sublist.cons _ ?_ | exact Sbp.refl | exact Sbp.nil | refine Sbp.cons (by repeat (first | exact Rem.head | apply Rem.tail)) ?_ | exact Sbp.app | refine Sbp.skip ?_)), ?_⟩
    refine RT.take (i := 23) rfl (by kernel_rfl) rfl (QO.assign) ?_
    refine RT.done (by kernel_rfl) ?_
    refine thenC_n ?_
    refine CS.seq ?_
    refine CS.seq ?_
    refine CS.region ?_
    refine RS.q rfl (QO.move) ?_
    refine RS.q rfl (QO.neq (by rfl) (by rfl)) ?_
    refine RS.nil ?_
    refine thenC_n ?_
    refine CS.cond (by rfl) (fun hb33 => ?_) (fun hb33 => ?_)
    · have hb33p := bne_iff_ne.1 hb33
      refine CS.seq ?_
      refine CS.region ?_
      refine RS.q rfl (QO.move) ?_
      refine RS.q rfl (QO.assign) ?_
      refine RS.nil ?_
      refine thenC_n ?_
      refine CS.ret ?_
      refine thenC_r ?_
      refine blockC_r ?_
      refine thenC_r ?_
      refine loopQ_r ?_
      refine blockC_r ?_
      refine thenC_r ?_
      refine retQ.mk (H' := []) (.inr rfl) (RVs.tmp (by rfl) RVs.nil) (List.nil_sublist _) ?_
      exact ⟨congrArg iv (endE (by omega) hz (by omega) (e3_ne hkf (by assumption)) (by assumption)).symm, rfl⟩
    have hb33p := of_bne_false hb33
    refine CS.skip ?_
    refine thenC_n ?_
    refine CS.seq ?_
    refine CS.seq ?_
    refine CS.draw 13 rfl (by kernel_rfl) (by kernel_rfl) ?_
    obtain ⟨q1, q2, q3⟩ := e3_0 (k := kf) (by assumption)
    refine RT.take (i := 0) rfl (by kernel_rfl) rfl (QO.move) ?_
    refine RT.take (i := 1) rfl (by kernel_rfl) rfl (QO.gtr (by rfl) (by rfl)) ?_
    refine RT.take (i := 2) rfl (by kernel_rfl) rfl (QO.move) ?_
    refine RT.split (dj := 52) (by rfl) (fun hb34 => ?_) (fun hb34 => ?_)
    · have hb34p := of_decide_eq_true hb34
      refine RT.takeOn (i := 3) (dj := 52) rfl rfl (congrArg Value.bool hb34) (by kernel_rfl) rfl (QO.fieldAddr fo67_0 (by rfl)) ?_
      refine RT.takeOn (i := 4) (dj := 52) rfl rfl (congrArg Value.bool hb34) (by kernel_rfl) rfl (QO.load ty3 (by rfl) (by repeat (first | exact List.Mem.head _ | refine List.Mem.tail _ ?_)) (by rfl)) ?_
      refine RT.takeOn (i := 5) (dj := 52) rfl rfl (congrArg Value.bool hb34) (by kernel_rfl) rfl (QO.move) ?_
      refine RT.takeOn (i := 6) (dj := 52) rfl rfl (congrArg Value.bool hb34) (by kernel_rfl) rfl (QO.move) ?_
      refine RT.takeOn (i := 7) (dj := 52) rfl rfl (congrArg Value.bool hb34) (by kernel_rfl) rfl (QO.sub (by rfl) (by rfl) (by omega) (by omega)) ?_
      have hp0 := hA.frame (i := k - 1) (show k - 1 < l.length by omega) (q := oA + ((k : Int) - 1).toNat * 10 + 0) (by omega)
      refine RT.takeOn (i := 8) (dj := 52) rfl rfl (congrArg Value.bool hb34) (by kernel_rfl) rfl (QO.idx Try.underlying57 ty67 (by rfl) (by rfl) (by omega) (by omega)) ?_
      refine RT.takeOn (i := 9) (dj := 52) rfl rfl (congrArg Value.bool hb34) (by kernel_rfl) rfl (QO.fieldAddr fo67_0 (by rfl)) ?_
      refine RT.takeOn (i := 10) (dj := 52) rfl rfl (congrArg Value.bool hb34) (by kernel_rfl) rfl (QO.loadO ty3 (by rfl) hp0) ?_
      refine RT.takeOn (i := 11) (dj := 52) rfl rfl (congrArg Value.bool hb34) (by kernel_rfl) rfl (QO.leq (by rfl) (by rfl)) ?_
      refine RT.take (i := 12) rfl (by kernel_rfl) rfl (QO.pickT (by rfl) hb34 (by rfl)) ?_
      refine RT.done (by kernel_rfl) ?_
      refine thenC_n ?_
      refine CS.cond (by rfl) (fun hb35 => ?_) (fun hb35 => ?_)
      · have hb35p := of_decide_eq_true hb35
        refine CS.seq ?_
        refine CS.region ?_
        refine RS.q rfl (QO.assign) ?_
        refine RS.nil ?_
        refine thenC_n ?_
        refine CS.ret ?_
        refine thenC_r ?_
        refine blockC_r ?_
        refine thenC_r ?_
        refine loopQ_r ?_
        refine blockC_r ?_
        refine thenC_r ?_
        refine retQ.mk (H' := []) (.inr rfl) (RVs.tmp (by rfl) RVs.nil) (List.nil_sublist _) ?_
        exact ⟨congrArg iv (endE (by omega) hz (by omega) (frE1_4 hkf (by omega) (by omega) (by omega) (by omega) rfl (by omega)) (by omega)).symm, rfl⟩
      have hb35p := of_decide_eq_false hb35
      refine CS.skip ?_
      refine thenC_n ?_
      refine CS.seq ?_
      refine CS.region ?_
      refine RS.q rfl (QO.fieldAddr fo67_2 (by rfl)) ?_
      refine RS.q rfl (QO.fieldAddr fo61_0 (by rfl)) ?_
      refine RS.q rfl (QO.load ty3 (by rfl) (by repeat (first | exact List.Mem.head _ | refine List.Mem.tail _ ?_)) (by rfl)) ?_
      refine RS.q rfl (QO.fieldAddr fo61_0 (by rfl)) ?_
      refine RS.q rfl (QO.load ty3 (by rfl) (by repeat (first | exact List.Mem.head _ | refine List.Mem.tail _ ?_)) (by rfl)) ?_
      refine RS.q rfl (QO.neq (by rfl) (by rfl)) ?_
      refine RS.q rfl (QO.move) ?_
      refine RS.split (dj := 69) (by rfl) (fun hb36 => ?_) (fun hb36 => ?_)
      · have hb36p := bne_iff_ne.1 hb36
        refine RS.off (dj := 69) rfl (.inl (congrArg Value.bool hb36)) (fun _ => rfl) rfl ?_
        refine RS.off (dj := 69) rfl (.inl (congrArg Value.bool hb36)) (fun _ => rfl) rfl ?_
        refine RS.off (dj := 69) rfl (.inl (congrArg Value.bool hb36)) (fun _ => rfl) rfl ?_
        refine RS.off (dj := 69) rfl (.inl (congrArg Value.bool hb36)) (fun _ => rfl) rfl ?_
        refine RS.off (dj := 69) rfl (.inl (congrArg Value.bool hb36)) (fun _ => rfl) rfl ?_
        refine RS.off (dj := 69) rfl (.inl (congrArg Value.bool hb36)) (fun _ => rfl) rfl ?_
        refine RS.q rfl (QO.pickT (by rfl) hb36 (by rfl)) ?_
        refine RS.q rfl (QO.move) ?_
        refine RS.off (dj := 77) rfl (.inl (congrArg Value.bool rfl)) (fun _ => rfl) rfl ?_
        refine RS.off (dj := 77) rfl (.inl (congrArg Value.bool rfl)) (fun _ => rfl) rfl ?_
        refine RS.off (dj := 77) rfl (.inl (congrArg Value.bool rfl)) (fun _ => rfl) rfl ?_
        refine RS.off (dj := 77) rfl (.inl (congrArg Value.bool rfl)) (fun _ => rfl) rfl ?_
        refine RS.off (dj := 77) rfl (.inl (congrArg Value.bool rfl)) (fun _ => rfl) rfl ?_
        refine RS.off (dj := 77) rfl (.inl (congrArg Value.bool rfl)) (fun _ => rfl) rfl ?_
        refine RS.off (dj := 77) rfl (.inl (congrArg Value.bool rfl)) (fun _ => rfl) rfl ?_
        refine RS.off (dj := 77) rfl (.inl (congrArg Value.bool rfl)) (fun _ => rfl) rfl ?_
        refine RS.q rfl (QO.pickT (by rfl) rfl (by rfl)) ?_
        refine RS.nil ?_
        refine thenC_n ?_
        refine CS.condT (by rfl) rfl ?_
        refine CS.seq ?_
        refine CS.region ?_
        refine RS.q rfl (QO.assign) ?_
        refine RS.nil ?_
        refine thenC_n ?_
        refine CS.ret ?_
        refine blockC_r ?_
        refine thenC_r ?_
        refine loopQ_r ?_
        refine blockC_r ?_
        refine thenC_r ?_
        refine retQ.mk (H' := []) (.inr rfl) (RVs.tmp (by rfl) RVs.nil) (List.nil_sublist _) ?_
        exact ⟨congrArg iv (endE (by omega) hz (by omega) (frE1_5 hkf hka (by omega) (by omega) (by omega) (by omega) (.inl (by omega))) (by omega)).symm, rfl⟩
      have hb36p := of_bne_false hb36
      refine RS.on (dj := 69) rfl (congrArg Value.bool hb36) ?_
      refine RS.q rfl (QO.fieldAddr fo67_2 (by rfl)) ?_
      refine RS.on (dj := 69) rfl (congrArg Value.bool hb36) ?_
      refine RS.q rfl (QO.fieldAddr fo61_7 (by rfl)) ?_
      refine RS.on (dj := 69) rfl (congrArg Value.bool hb36) ?_
      refine RS.q rfl (QO.load ty4 (by rfl) (by repeat (first | exact List.Mem.head _ | refine List.Mem.tail _ ?_)) (by rfl)) ?_
      refine RS.on (dj := 69) rfl (congrArg Value.bool hb36) ?_
      refine RS.q rfl (QO.fieldAddr fo61_7 (by rfl)) ?_
      refine RS.on (dj := 69) rfl (congrArg Value.bool hb36) ?_
      refine RS.q rfl (QO.load ty4 (by rfl) (by repeat (first | exact List.Mem.head _ | refine List.Mem.tail _ ?_)) (by rfl)) ?_
      refine RS.on (dj := 69) rfl (congrArg Value.bool hb36) ?_
      refine RS.q rfl (QO.bneq Try.underlying4 (by rfl) (by rfl)) ?_
      refine RS.q rfl (QO.pickF (by rfl) hb36 (by rfl)) ?_
      refine RS.q rfl (QO.move) ?_
      refine RS.split (dj := 77) (by rfl) (fun hb37 => ?_) (fun hb37 => ?_)
      · refine RS.off (dj := 77) rfl (.inl (congrArg Value.bool hb37)) (fun _ => rfl) rfl ?_
        refine RS.off (dj := 77) rfl (.inl (congrArg Value.bool hb37)) (fun _ => rfl) rfl ?_
        refine RS.off (dj := 77) rfl (.inl (congrArg Value.bool hb37)) (fun _ => rfl) rfl ?_
        refine RS.off (dj := 77) rfl (.inl (congrArg Value.bool hb37)) (fun _ => rfl) rfl ?_
        refine RS.off (dj := 77) rfl (.inl (congrArg Value.bool hb37)) (fun _ => rfl) rfl ?_
        refine RS.off (dj := 77) rfl (.inl (congrArg Value.bool hb37)) (fun _ => rfl) rfl ?_
        refine RS.off (dj := 77) rfl (.inl (congrArg Value.bool hb37)) (fun _ => rfl) rfl ?_
        refine RS.off (dj := 77) rfl (.inl (congrArg Value.bool hb37)) (fun _ => rfl) rfl ?_
        refine RS.q rfl (QO.pickT (by rfl) hb37 (by rfl)) ?_
        refine RS.nil ?_
        refine thenC_n ?_
        refine CS.condT (by rfl) rfl ?_
        refine CS.seq ?_
        refine CS.region ?_
        refine RS.q rfl (QO.assign) ?_
        refine RS.nil ?_
        refine thenC_n ?_
        refine CS.ret ?_
        refine blockC_r ?_
        refine thenC_r ?_
        refine loopQ_r ?_
        refine blockC_r ?_
        refine thenC_r ?_
        refine retQ.mk (H' := []) (.inr rfl) (RVs.tmp (by rfl) RVs.nil) (List.nil_sublist _) ?_
        exact ⟨congrArg iv (endE (by omega) hz (by omega) (frE1_5 hkf hka (by omega) (by omega) (by omega) (by omega) (.inr (.inl (bne_T (by assumption))))) (by omega)).symm, rfl⟩
      refine RS.on (dj := 77) rfl (congrArg Value.bool hb37) ?_
      refine RS.q rfl (QO.fieldAddr fo67_2 (by rfl)) ?_
      refine RS.on (dj := 77) rfl (congrArg Value.bool hb37) ?_
      refine RS.q rfl (QO.fieldAddr fo61_6 (by rfl)) ?_
      refine RS.on (dj := 77) rfl (congrArg Value.bool hb37) ?_
      refine RS.q rfl (QO.load ty59 (by rfl) (by repeat (first | exact List.Mem.head _ | refine List.Mem.tail _ ?_)) (by rfl)) ?_
      refine RS.on (dj := 77) rfl (congrArg Value.bool hb37) ?_
      refine RS.q rfl (QO.lenS Try.underlying59 (by rfl)) ?_
      refine RS.on (dj := 77) rfl (congrArg Value.bool hb37) ?_
      refine RS.q rfl (QO.fieldAddr fo61_6 (by rfl)) ?_
      refine RS.on (dj := 77) rfl (congrArg Value.bool hb37) ?_
      refine RS.q rfl (QO.load ty59 (by rfl) (by repeat (first | exact List.Mem.head _ | refine List.Mem.tail _ ?_)) (by rfl)) ?_
      refine RS.on (dj := 77) rfl (congrArg Value.bool hb37) ?_
      refine RS.q rfl (QO.lenS Try.underlying59 (by rfl)) ?_
      refine RS.on (dj := 77) rfl (congrArg Value.bool hb37) ?_
      refine RS.q rfl (QO.neq (by rfl) (by rfl)) ?_
      refine RS.q rfl (QO.pickF (by rfl) hb37 (by rfl)) ?_
      refine RS.nil ?_
      refine thenC_n ?_
      refine CS.cond (by rfl) (fun hb38 => ?_) (fun hb38 => ?_)
      · have hb38p := bne_iff_ne.1 hb38
        refine CS.seq ?_
        refine CS.region ?_
        refine RS.q rfl (QO.assign) ?_
        refine RS.nil ?_
        refine thenC_n ?_
        refine CS.ret ?_
        refine blockC_r ?_
        refine thenC_r ?_
        refine loopQ_r ?_
        refine blockC_r ?_
        refine thenC_r ?_
        refine retQ.mk (H' := []) (.inr rfl) (RVs.tmp (by rfl) RVs.nil) (List.nil_sublist _) ?_
        exact ⟨congrArg iv (endE (by omega) hz (by omega) (frE1_5 hkf hka (by omega) (by omega) (by omega) (by omega) (.inr (.inr (by omega)))) (by omega)).symm, rfl⟩
      have hb38p := of_bne_false hb38
      refine CS.skip ?_
      refine blockC_n ?_
      refine thenC_n ?_
      refine CS.region ?_
      refine RS.q rfl (QO.add (by rfl) (by rfl) (by omega) (by omega)) ?_
      refine RS.q rfl (QO.move) ?_
      refine RS.nil ?_
      refine loopQ_n (by intro t ht; repeat (first | with_reducible exact rfl | exact frame_puts ht (frame_mix ht) _ rfl | (refine frame_put rfl ht ?_) | (refine frame_puts ht ?_ _ rfl) | exact frame_mix ht | (refine frame_mix2 rfl ht ?_) | exact rfl)) ?_
      exact ⟨k + 1, ⟨by omega, firstE_suc hz (frE1_0 hkf hka (by omega) (by omega) (by omega) (by omega) (no3 (by omega) (bne_F (by assumption)) (by omega)))⟩, by omega, (by repeat (first | exact kn_nil | refine kn_cons (by rfl) ?_)), (by repeat (first | exact List.Sublist.refl _ | exact List.nil_sublist _ | refine List.Sublist.cons_cons _ ?_ | refine List.Sublist.cons _ ?_ | exact Sbp.refl | exact Sbp.nil | refine Sbp.cons (by repeat (first | exact Rem.head | apply Rem.tail)) ?_ | exact Sbp.app | refine Sbp.skip ?_))⟩
    have hb34p := of_decide_eq_false hb34
    refine RT.takeOff (i := 3) (dj := 52) rfl rfl (.inl (congrArg Value.bool hb34)) (fun _ => rfl) (by kernel_rfl) rfl ?_
    refine RT.takeOff (i := 4) (dj := 52) rfl rfl (.inl (congrArg Value.bool hb34)) (fun _ => rfl) (by kernel_rfl) rfl ?_
    refine RT.takeOff (i := 5) (dj := 52) rfl rfl (.inl (congrArg Value.bool hb34)) (fun _ => rfl) (by kernel_rfl) rfl ?_
    refine RT.takeOff (i := 6) (dj := 52) rfl rfl (.inl (congrArg Value.bool hb34)) (fun _ => rfl) (by kernel_rfl) rfl ?_
    refine RT.takeOff (i := 7) (dj := 52) rfl rfl (.inl (congrArg Value.bool hb34)) (fun _ => rfl) (by kernel_rfl) rfl ?_
    refine RT.takeOff (i := 8) (dj := 52) rfl rfl (.inl (congrArg Value.bool hb34)) (fun _ => rfl) (by kernel_rfl) rfl ?_
    refine RT.takeOff (i := 9) (dj := 52) rfl rfl (.inl (congrArg Value.bool hb34)) (fun _ => rfl) (by kernel_rfl) rfl ?_
    refine RT.takeOff (i := 10) (dj := 52) rfl rfl (.inl (congrArg Value.bool hb34)) (fun _ => rfl) (by kernel_rfl) rfl ?_
    refine RT.takeOff (i := 11) (dj := 52) rfl rfl (.inl (congrArg Value.bool hb34)) (fun _ => rfl) (by kernel_rfl) rfl ?_
    refine RT.take (i := 12) rfl (by kernel_rfl) rfl (QO.pickF (by rfl) hb34 (by rfl)) ?_
    refine RT.done (by kernel_rfl) ?_
    refine thenC_n ?_
    refine CS.condF (by rfl) rfl ?_
    refine CS.skip ?_
    refine thenC_n ?_
    refine CS.seq ?_
    refine CS.region ?_
    refine RS.q rfl (QO.fieldAddr fo67_2 (by rfl)) ?_
    refine RS.q rfl (QO.fieldAddr fo61_0 (by rfl)) ?_
    refine RS.q rfl (QO.load ty3 (by rfl) (by repeat (first | exact List.Mem.head _ | refine List.Mem.tail _ ?_)) (by rfl)) ?_
    refine RS.q rfl (QO.fieldAddr fo61_0 (by rfl)) ?_
    refine RS.q rfl (QO.load ty3 (by rfl) (by repeat (first | exact List.Mem.head _ | refine List.Mem.tail _ ?_)) (by rfl)) ?_
    refine RS.q rfl (QO.neq (by rfl) (by rfl)) ?_
    refine RS.q rfl (QO.move) ?_
    refine RS.split (dj := 69) (by rfl) (fun hb39 => ?_) (fun hb39 => ?_)
    · have hb39p := bne_iff_ne.1 hb39
      refine RS.off (dj := 69) rfl (.inl (congrArg Value.bool hb39)) (fun _ => rfl) rfl ?_
      refine RS.off (dj := 69) rfl (.inl (congrArg Value.bool hb39)) (fun _ => rfl) rfl ?_
      refine RS.off (dj := 69) rfl (.inl (congrArg Value.bool hb39)) (fun _ => rfl) rfl ?_
      refine RS.off (dj := 69) rfl (.inl (congrArg Value.bool hb39)) (fun _ => rfl) rfl ?_
      refine RS.off (dj := 69) rfl (.inl (congrArg Value.bool hb39)) (fun _ => rfl) rfl ?_
      refine RS.off (dj := 69) rfl (.inl (congrArg Value.bool hb39)) (fun _ => rfl) rfl ?_
      refine RS.q rfl (QO.pickT (by rfl) hb39 (by rfl)) ?_
      refine RS.q rfl (QO.move) ?_
      refine RS.off (dj := 77) rfl (.inl (congrArg Value.bool rfl)) (fun _ => rfl) rfl ?_
      refine RS.off (dj := 77) rfl (.inl (congrArg Value.bool rfl)) (fun _ => rfl) rfl ?_
      refine RS.off (dj := 77) rfl (.inl (congrArg Value.bool rfl)) (fun _ => rfl) rfl ?_
      refine RS.off (dj := 77) rfl (.inl (congrArg Value.bool rfl)) (fun _ => rfl) rfl ?_
      refine RS.off (dj := 77) rfl (.inl (congrArg Value.bool rfl)) (fun _ => rfl) rfl ?_
      refine RS.off (dj := 77) rfl (.inl (congrArg Value.bool rfl)) (fun _ => rfl) rfl ?_
      refine RS.off (dj := 77) rfl (.inl (congrArg Value.bool rfl)) (fun _ => rfl) rfl ?_
      refine RS.off (dj := 77) rfl (.inl (congrArg Value.bool rfl)) (fun _ => rfl) rfl ?_
      refine RS.q rfl (QO.pickT (by rfl) rfl (by rfl)) ?_
      refine RS.nil ?_
      refine thenC_n ?_
      refine CS.condT (by rfl) rfl ?_
      refine CS.seq ?_
      refine CS.region ?_
      refine RS.q rfl (QO.assign) ?_
      refine RS.nil ?_
      refine thenC_n ?_
      refine CS.ret ?_
      refine blockC_r ?_
      refine thenC_r ?_
      refine loopQ_r ?_
      refine blockC_r ?_
      refine thenC_r ?_
      refine retQ.mk (H' := []) (.inr rfl) (RVs.tmp (by rfl) RVs.nil) (List.nil_sublist _) ?_
      exact ⟨congrArg iv (endE (by omega) hz (by omega) (frE1_5 hkf hka (by omega) (by omega) (by omega) (by omega) (.inl (by omega))) (by omega)).symm, rfl⟩
    have hb39p := of_bne_false hb39
    refine RS.on (dj := 69) rfl (congrArg Value.bool hb39) ?_
    refine RS.q rfl (QO.fieldAddr fo67_2 (by rfl)) ?_
    refine RS.on (dj := 69) rfl (congrArg Value.bool hb39) ?_
    refine RS.q rfl (QO.fieldAddr fo61_7 (by rfl)) ?_
    refine RS.on (dj := 69) rfl (congrArg Value.bool hb39) ?_
    refine RS.q rfl (QO.load ty4 (by rfl) (by repeat (first | exact List.Mem.head _ | refine List.Mem.tail _ ?_)) (by rfl)) ?_
    refine RS.on (dj := 69) rfl (congrArg Value.bool hb39) ?_
    refine RS.q rfl (QO.fieldAddr fo61_7 (by rfl)) ?_
    refine RS.on (dj := 69) rfl (congrArg Value.bool hb39) ?_
    refine RS.q rfl (QO.load ty4 (by rfl) (by repeat (first | exact List.Mem.head _ | refine List.Mem.tail _ ?_)) (by rfl)) ?_
    refine RS.on (dj := 69) rfl (congrArg Value.bool hb39) ?_
    refine RS.q rfl (QO.bneq Try.underlying4 (by rfl) (by rfl)) ?_
    refine RS.q rfl (QO.pickF (by rfl) hb39 (by rfl)) ?_
    refine RS.q rfl (QO.move) ?_
    refine RS.split (dj := 77) (by rfl) (fun hb40 => ?_) (fun hb40 => ?_)
    · refine RS.off (dj := 77) rfl (.inl (congrArg Value.bool hb40)) (fun _ => rfl) rfl ?_
      refine RS.off (dj := 77) rfl (.inl (congrArg Value.bool hb40)) (fun _ => rfl) rfl ?_
      refine RS.off (dj := 77) rfl (.inl (congrArg Value.bool hb40)) (fun _ => rfl) rfl ?_
      refine RS.off (dj := 77) rfl (.inl (congrArg Value.bool hb40)) (fun _ => rfl) rfl ?_
      refine RS.off (dj := 77) rfl (.inl (congrArg Value.bool hb40)) (fun _ => rfl) rfl ?_
      refine RS.off (dj := 77) rfl (.inl (congrArg Value.bool hb40)) (fun _ => rfl) rfl ?_
      refine RS.off (dj := 77) rfl (.inl (congrArg Value.bool hb40)) (fun _ => rfl) rfl ?_
      refine RS.off (dj := 77) rfl (.inl (congrArg Value.bool hb40)) (fun _ => rfl) rfl ?_
      refine RS.q rfl (QO.pickT (by rfl) hb40 (by rfl)) ?_
      refine RS.nil ?_
      refine thenC_n ?_
      refine CS.condT (by rfl) rfl ?_
      refine CS.seq ?_
      refine CS.region ?_
      refine RS.q rfl (QO.assign) ?_
      refine RS.nil ?_
      refine thenC_n ?_
      refine CS.ret ?_
      refine blockC_r ?_
      refine thenC_r ?_
      refine loopQ_r ?_
      refine blockC_r ?_
      refine thenC_r ?_
      refine retQ.mk (H' := []) (.inr rfl) (RVs.tmp (by rfl) RVs.nil) (List.nil_sublist _) ?_
      exact ⟨congrArg iv (endE (by omega) hz (by omega) (frE1_5 hkf hka (by omega) (by omega) (by omega) (by omega) (.inr (.inl (bne_T (by assumption))))) (by omega)).symm, rfl⟩
    refine RS.on (dj := 77) rfl (congrArg Value.bool hb40) ?_
    refine RS.q rfl (QO.fieldAddr fo67_2 (by rfl)) ?_
    refine RS.on (dj := 77) rfl (congrArg Value.bool hb40) ?_
    refine RS.q rfl (QO.fieldAddr fo61_6 (by rfl)) ?_
    refine RS.on (dj := 77) rfl (congrArg Value.bool hb40) ?_
    refine RS.q rfl (QO.load ty59 (by rfl) (by repeat (first | exact List.Mem.head _ | refine List.Mem.tail _ ?_)) (by rfl)) ?_
    refine RS.on (dj := 77) rfl (congrArg Value.bool hb40) ?_
    refine RS.q rfl (QO.lenS Try.underlying59 (by rfl)) ?_
    refine RS.on (dj := 77) rfl (congrArg Value.bool hb40) ?_
    refine RS.q rfl (QO.fieldAddr fo61_6 (by rfl)) ?_
    refine RS.on (dj := 77) rfl (congrArg Value.bool hb40) ?_
    refine RS.q rfl (QO.load ty59 (by rfl) (by repeat (first | exact List.Mem.head _ | refine List.Mem.tail _ ?_)) (by rfl)) ?_
    refine RS.on (dj := 77) rfl (congrArg Value.bool hb40) ?_
    refine RS.q rfl (QO.lenS Try.underlying59 (by rfl)) ?_
    refine RS.on (dj := 77) rfl (congrArg Value.bool hb40) ?_
    refine RS.q rfl (QO.neq (by rfl) (by rfl)) ?_
    refine RS.q rfl (QO.pickF (by rfl) hb40 (by rfl)) ?_
    refine RS.nil ?_
    refine thenC_n ?_
    refine CS.cond (by rfl) (fun hb41 => ?_) (fun hb41 => ?_)
    · have hb41p := bne_iff_ne.1 hb41
      refine CS.seq ?_
      refine CS.region ?_
      refine RS.q rfl (QO.assign) ?_
      refine RS.nil ?_
      refine thenC_n ?_
      refine CS.ret ?_
      refine blockC_r ?_
      refine thenC_r ?_
      refine loopQ_r ?_
      refine blockC_r ?_
      refine thenC_r ?_
      refine retQ.mk (H' := []) (.inr rfl) (RVs.tmp (by rfl) RVs.nil) (List.nil_sublist _) ?_
      exact ⟨congrArg iv (endE (by omega) hz (by omega) (frE1_5 hkf hka (by omega) (by omega) (by omega) (by omega) (.inr (.inr (by omega)))) (by omega)).symm, rfl⟩
    have hb41p := of_bne_false hb41
    refine CS.skip ?_
    refine blockC_n ?_
    refine thenC_n ?_
    refine CS.region ?_
    refine RS.q rfl (QO.add (by rfl) (by rfl) (by omega) (by omega)) ?_
    refine RS.q rfl (QO.move) ?_
    refine RS.nil ?_
    refine loopQ_n (by intro t ht; repeat (first | with_reducible exact rfl | exact frame_puts ht (frame_mix ht) _ rfl | (refine frame_put rfl ht ?_) | (refine frame_puts ht ?_ _ rfl) | exact frame_mix ht | (refine frame_mix2 rfl ht ?_) | exact rfl)) ?_
    exact ⟨k + 1, ⟨by omega, firstE_suc hz (frE1_0 hkf hka (by omega) (by omega) (by omega) (by omega) (no3 (by omega) (bne_F (by assumption)) (by omega)))⟩, by omega, (by repeat (first | exact kn_nil | refine kn_cons (by rfl) ?_)), (by repeat (first | exact List.Sublist.refl _ | exact List.nil_sublist _ | refine List.Sublist.cons_cons _ ?_ | refine List.Sublist.cons _ ?_ | exact Sbp.refl | exact Sbp.nil | refine Sbp.cons (by repeat (first | exact Rem.head | apply Rem.tail)) ?_ | exact Sbp.app | refine Sbp.skip ?_))⟩
  have hb2p := of_decide_eq_false hb2
  refine CS.exit ?_
  refine thenC_x ?_
  refine loopQ_x ?_
  refine blockC_x ?_
  refine thenC_n ?_
  refine CS.seq ?_
  refine CS.region ?_
  refine RS.q rfl (QO.assign) ?_
  refine RS.nil ?_
  refine thenC_n ?_
  refine CS.ret ?_
  refine retQ.mk (H' := []) (.inr rfl) (RVs.tmp (by rfl) RVs.nil) (List.nil_sublist _) ?_
  exact ⟨congrArg iv (frE_0 (by omega) (by omega) hz (by omega)).symm, rfl⟩

end Go.Proofs.Ytapcgokcfmklbaa

namespace Go.Proofs.Ytapcgokcfmklbaa
open Go Go.RowKit

section
variable {P : Program} {W : World} {H : HL} {e : Env} {x : Operand} {t t' ty : TypeId}
theorem QO.conv_ff {s k : FloatKind} {v d : Nat} (hu : (P.underlying t).isSome = true) (hu' : P.underlying t' = some (.float k)) (hx : ev e x = .float s v) (h : floatToFloatBits s v k = some d) : QO P W H e (.convert t t' x) ty (.float k d) := fun d' pos af gd w _ => by
  have h1 := run_convert_float_float (P := P) (w := w) t t' s k v d hu hu' h
  simp only [execOp, hx, Sem.run_bind, Sem.run_pure]
  simp [h1]
end
/-- the magnitude of a double, in bits -/
def absN (d : Nat) : Nat := (IntKind.u64.wrap ((BitVec.ofInt 64 (d : Int) &&& ~~~ BitVec.ofInt 64 9223372036854775808).toNat : Int)).toNat
def absF (r : Nat) : Option Nat := (floatToFloatBits .f32 r .f64).bind fun d => floatToFloatBits .f64 (absN d) .f32
/-- the pattern -/
def pat (i : Nat) : Nat := cvF (((i * i * 7 + i * 13) % 251 + i : Nat) : Int)
def difR (u v : Nat) : Option Nat := (fop .sub u v).bind absF
/-- how far two singles differ -/
def dif (u v : Nat) : Nat := if cl u = cl v then 0 else cl ((difR u v).getD 0)
def cmpF (p q t : Nat) : Nat := dif (pat (4 * ((3 + t / 9) * 9 + 3 + t / 3 % 3) + t % 3)) (pat (4 * ((1 + q + t / 9) * 9 + 1 + p + t / 3 % 3) + t % 3))
def cmpL (p q n : Nat) : List Nat := (List.range n).map (cmpF p q)
/-- how far the pattern differs from itself, moved -/
def cmpR (p q : Nat) : Nat := fo .quo (sum (cmpL p q 27)) (cvF 27)
theorem cmpR_all : ∀ p : Nat, p < 5 → ∀ q : Nat, q < 5 → nan32 (cmpR p q) = false ∧ (p = 2 ∧ q = 2 → cmpR p q = 0) ∧ (¬ (p = 2 ∧ q = 2) → fcmpB .lss 0 (cmpR p q) = true ∧ fcmpB .lss (cmpR p q) 0 = false) := by decide +kernel
structure TS where
  fnd : Bool
  bx : Int
  bz : Int
  ls : Nat
/-- what is known behind k places, the right one being the k0-th -/
def TInv (k0 : Nat) (dx dz : Int) (k : Nat) (s : TS) : Prop :=
  (k ≤ k0 → s.fnd = decide (0 < k) ∧ (0 < k → fcmpB .lss 0 s.ls = true)) ∧ (k0 < k → s.fnd = true ∧ s.bx = dx ∧ s.bz = dz ∧ s.ls = 0)
theorem TInv.start (k0 : Nat) (dx dz : Int) (s : TS) (h : s.fnd = false) : TInv k0 dx dz 0 s := ⟨fun _ => ⟨h, fun h => by omega⟩, fun h => by omega⟩
theorem TInv.step {px py qx qy k : Nat} {s : TS} (hpx : px < 3) (hpy : py < 3) (hqx : qx < 3) (hqy : qy < 3) (hk : k = 3 * qy + qx) (h : TInv (3 * py + px) ((px : Int) - 1) ((py : Int) - 1) k s) :
    ((!s.fnd) = true ∨ fcmpB .lss (cmpR (qx + 2 - px) (qy + 2 - py)) s.ls = true → TInv (3 * py + px) ((px : Int) - 1) ((py : Int) - 1) (k + 1) ⟨true, (qx : Int) - 1, (qy : Int) - 1, cmpR (qx + 2 - px) (qy + 2 - py)⟩) ∧
    ((!s.fnd) = false → fcmpB .lss (cmpR (qx + 2 - px) (qy + 2 - py)) s.ls = false → TInv (3 * py + px) ((px : Int) - 1) ((py : Int) - 1) (k + 1) s) := by
  obtain ⟨c1, c2, c3⟩ := cmpR_all (qx + 2 - px) (by omega) (qy + 2 - py) (by omega)
  obtain ⟨h1, h2⟩ := h
  refine ⟨fun hu => ⟨fun hk1 => ⟨?_, fun _ => ?_⟩, fun hk1 => ?_⟩, fun hf hu => ⟨fun hk1 => ⟨?_, fun _ => ?_⟩, fun hk1 => ?_⟩⟩
  · exact (decide_eq_true (by omega)).symm
  · exact (c3 (by omega)).1
  · rcases Nat.lt_or_ge (3 * py + px) k with h9 | h9
    · exfalso
      obtain ⟨e1, _, _, e4⟩ := h2 h9
      rw [e1, e4] at hu
      rcases hu with hu | hu
      · cases hu
      · rw [(c3 (by omega)).2] at hu; cases hu
    · have e : qx = px ∧ qy = py := by omega
      refine ⟨rfl, ?_, ?_, c2 (by omega)⟩
      · show (qx : Int) - 1 = _; omega
      · show (qy : Int) - 1 = _; omega
  · have := (h1 (by omega)).1
    rw [decide_eq_true (by omega)]
    cases hs : s.fnd
    · rw [hs] at hf; cases hf
    · rfl
  · rcases Nat.eq_zero_or_pos k with h0 | h0
    · exfalso
      have := (h1 (by omega)).1
      rw [h0] at this
      rw [this] at hf; cases hf
    · exact (h1 (by omega)).2 h0
  · rcases Nat.lt_or_ge (3 * py + px) k with h9 | h9
    · exact h2 h9
    · exfalso
      have e : qx + 2 - px = 2 ∧ qy + 2 - py = 2 := by omega
      rw [c2 e] at hu
      rcases Nat.eq_zero_or_pos k with h0 | h0
      · have := (h1 (by omega)).1
        rw [h0] at this
        rw [this] at hf; cases hf
      · rw [(h1 (by omega)).2 h0] at hu; cases hu
theorem TInv.done {px py : Nat} {dx dz : Int} {s : TS} (hpx : px < 3) (hpy : py < 3) (h : TInv (3 * py + px) dx dz 9 s) : s.fnd = true ∧ s.bx = dx ∧ s.bz = dz ∧ s.ls = 0 := h.2 (by omega)
end Go.Proofs.Ytapcgokcfmklbaa

namespace Go.Proofs.Ytapcgokcfmklbaa
open Go Go.Proofs Go.RowKit

theorem ok125 : callOK Try.prog 125 = true := by kernel_rfl
theorem ok130 : callOK Try.prog 130 = true := by kernel_rfl

section
variable {P : Program} {W : World} {H : HL} {e : Env} {x y : Operand} {t t' ty : TypeId}
theorem QO.quo64 {i j r : Nat} (hx : ev e x = .float .f64 i) (hy : ev e y = .float .f64 j) (h : Ieee.double.div i j = some r) : QO P W H e (.binOp .quo t x y t') ty (.float .f64 r) := by
  refine QO.bin hx hy (fun w => ?_)
  have h1 : (eqGuard .quo t x y (.float .f64 i) (.float .f64 j)).run P w = .ok () w := by simp [eqGuard]
  simp only [Sem.run_bind, h1, Result.andThen_ok]
  simp [binOp, Op.floatArith, FloatKind.format, h]
theorem QO.add64 {i j r : Nat} (hx : ev e x = .float .f64 i) (hy : ev e y = .float .f64 j) (h : Ieee.double.add i j = some r) : QO P W H e (.binOp .add t x y t') ty (.float .f64 r) := by
  refine QO.bin hx hy (fun w => ?_)
  have h1 : (eqGuard .add t x y (.float .f64 i) (.float .f64 j)).run P w = .ok () w := by simp [eqGuard]
  simp only [Sem.run_bind, h1, Result.andThen_ok]
  simp [binOp, Op.floatArith, FloatKind.format, h]
end
theorem limV_1 {t : Nat} (h : fcmpB .lss t 0 = true) : cl 0 = limV t := by unfold limV; rw [if_pos h]; rfl
theorem limV_2 {t : Nat} (h : fcmpB .lss t 0 = false) (h2 : fcmpB .gtr t 1065353216 = true) : cl 1065353216 = limV t := by unfold limV; rw [if_neg (by rw [h]; decide), if_pos h2]; rfl
theorem limV_3 {t : Nat} (h : fcmpB .lss t 0 = false) (h2 : fcmpB .gtr t 1065353216 = false) : cl t = limV t := by unfold limV; rw [if_neg (by rw [h]; decide), if_neg (by rw [h2]; decide)]
theorem rteX {x : Nat} (h : ¬ isNanD (Ieee.double.read x)) (w : World) : (callFunc 126 [Value.float .f64 x].toArray).run Try.prog w = .ok (.value (.float .f64 (rteD x))) w := by
  have h1 := rte_run h "math.RoundToEven" Try.prog w
  have e : (callFunc 126 [Value.float .f64 x].toArray).run Try.prog w = (do let v ← Extern.MathFloor.toIntegral "math.RoundToEven" .even #[.float .f64 x]; pure (Next.value v) : Sem Next).run Try.prog w := by kernel_rfl
  rw [e, Sem.run_bind, h1]; rfl

set_option maxRecDepth 100000 in
theorem limit1 (t : Nat) (W : World) : Fn_ Try.prog 125 #[flt t, flt 0, flt 1065353216] W (fun v H => v = flt (limV t) ∧ H = []) := by
  refine Fn_.intro Try.func125 rfl rfl (by rfl) ?_
  refine CS.seq ?_
  refine CS.region ?_
  refine RS.q rfl (QO.assign) ?_
  refine RS.nil ?_
  refine thenC_n ?_
  refine CS.seq ?_
  refine CS.block ?_
  refine CS.seq ?_
  refine CS.region ?_
  refine RS.q rfl (QO.move) ?_
  refine RS.q rfl (QO.move) ?_
  refine RS.q rfl (QO.fcmp32 (by rfl) (by rfl) (by simp)) ?_
  refine RS.q rfl (QO.assign) ?_
  refine RS.nil ?_
  refine thenC_n ?_
  refine CS.cond (by rfl) (fun hb0 => ?_) (fun hb0 => ?_)
  · refine CS.seq ?_
    refine CS.region ?_
    refine RS.q rfl (QO.move) ?_
    refine RS.call rfl (by rfl) ok57 (by rfl) (fun w ho => clean _ _) ?_
    rintro _ _ ⟨rfl, rfl⟩
    refine RS.q rfl (QO.assign) ?_
    refine RS.nil ?_
    refine thenC_n ?_
    refine CS.ret ?_
    refine blockC_r ?_
    refine thenC_r ?_
    refine retQ.mk (H' := []) (.inr rfl) (RVs.tmp (by rfl) RVs.nil) (List.nil_sublist _) ?_
    first | exact ⟨congrArg flt (limV_1 (by assumption)), rfl⟩ | exact ⟨congrArg flt (limV_2 (by assumption) (by assumption)), rfl⟩ | exact ⟨congrArg flt (limV_3 (by assumption) (by assumption)), rfl⟩
  · refine CS.seq ?_
    refine CS.region ?_
    refine RS.q rfl (QO.move) ?_
    refine RS.q rfl (QO.move) ?_
    refine RS.q rfl (QO.fcmp32 (by rfl) (by rfl) (by simp)) ?_
    refine RS.q rfl (QO.assign) ?_
    refine RS.nil ?_
    refine thenC_n ?_
    refine CS.cond (by rfl) (fun hb1 => ?_) (fun hb1 => ?_)
    · refine CS.seq ?_
      refine CS.region ?_
      refine RS.q rfl (QO.move) ?_
      refine RS.call rfl (by rfl) ok57 (by rfl) (fun w ho => clean _ _) ?_
      rintro _ _ ⟨rfl, rfl⟩
      refine RS.q rfl (QO.assign) ?_
      refine RS.nil ?_
      refine thenC_n ?_
      refine CS.ret ?_
      refine blockC_r ?_
      refine thenC_r ?_
      refine retQ.mk (H' := []) (.inr rfl) (RVs.tmp (by rfl) RVs.nil) (List.nil_sublist _) ?_
      first | exact ⟨congrArg flt (limV_1 (by assumption)), rfl⟩ | exact ⟨congrArg flt (limV_2 (by assumption) (by assumption)), rfl⟩ | exact ⟨congrArg flt (limV_3 (by assumption) (by assumption)), rfl⟩
    · refine CS.skip ?_
      refine blockC_n ?_
      refine thenC_n ?_
      refine CS.seq ?_
      refine CS.region ?_
      refine RS.q rfl (QO.move) ?_
      refine RS.call rfl (by rfl) ok57 (by rfl) (fun w ho => clean _ _) ?_
      rintro _ _ ⟨rfl, rfl⟩
      refine RS.q rfl (QO.assign) ?_
      refine RS.nil ?_
      refine thenC_n ?_
      refine CS.ret ?_
      refine retQ.mk (H' := []) (.inr rfl) (RVs.tmp (by rfl) RVs.nil) (List.nil_sublist _) ?_
      first | exact ⟨congrArg flt (limV_1 (by assumption)), rfl⟩ | exact ⟨congrArg flt (limV_2 (by assumption) (by assumption)), rfl⟩ | exact ⟨congrArg flt (limV_3 (by assumption) (by assumption)), rfl⟩

set_option maxRecDepth 100000 in
theorem limitOf1 (t : Nat) (W : World) : Fn_ Try.prog 130 #[flt t, flt 0, flt 1065353216] W (fun v H => v = flt (limV t) ∧ H = []) := by
  refine Fn_.intro Try.func130 rfl rfl (by rfl) ?_
  refine CS.seq ?_
  refine CS.region ?_
  refine RS.q rfl (QO.assign) ?_
  refine RS.nil ?_
  refine thenC_n ?_
  refine CS.seq ?_
  refine CS.seq ?_
  refine CS.region ?_
  refine RS.q rfl (QO.move) ?_
  refine RS.q rfl (QO.move) ?_
  refine RS.q rfl (QO.fcmp32 (by rfl) (by rfl) (by simp)) ?_
  refine RS.nil ?_
  refine thenC_n ?_
  refine CS.cond (by rfl) (fun hb0 => ?_) (fun hb0 => ?_)
  · refine CS.seq ?_
    refine CS.region ?_
    refine RS.q rfl (QO.move) ?_
    refine RS.call rfl (by rfl) ok82 (by rfl) (fun w ho => fix _ _) ?_
    rintro _ _ ⟨rfl, rfl⟩
    refine RS.q rfl (QO.assign) ?_
    refine RS.nil ?_
    refine thenC_n ?_
    refine CS.ret ?_
    refine thenC_r ?_
    refine retQ.mk (H' := []) (.inr rfl) (RVs.tmp (by rfl) RVs.nil) (List.nil_sublist _) ?_
    first | exact ⟨congrArg flt (limV_1 (by assumption)), rfl⟩ | exact ⟨congrArg flt (limV_2 (by assumption) (by assumption)), rfl⟩ | exact ⟨congrArg flt (limV_3 (by assumption) (by assumption)), rfl⟩
  · refine CS.skip ?_
    refine thenC_n ?_
    refine CS.seq ?_
    refine CS.seq ?_
    refine CS.region ?_
    refine RS.q rfl (QO.move) ?_
    refine RS.q rfl (QO.move) ?_
    refine RS.q rfl (QO.fcmp32 (by rfl) (by rfl) (by simp)) ?_
    refine RS.nil ?_
    refine thenC_n ?_
    refine CS.cond (by rfl) (fun hb1 => ?_) (fun hb1 => ?_)
    · refine CS.seq ?_
      refine CS.region ?_
      refine RS.q rfl (QO.move) ?_
      refine RS.call rfl (by rfl) ok82 (by rfl) (fun w ho => fix _ _) ?_
      rintro _ _ ⟨rfl, rfl⟩
      refine RS.q rfl (QO.assign) ?_
      refine RS.nil ?_
      refine thenC_n ?_
      refine CS.ret ?_
      refine thenC_r ?_
      refine retQ.mk (H' := []) (.inr rfl) (RVs.tmp (by rfl) RVs.nil) (List.nil_sublist _) ?_
      first | exact ⟨congrArg flt (limV_1 (by assumption)), rfl⟩ | exact ⟨congrArg flt (limV_2 (by assumption) (by assumption)), rfl⟩ | exact ⟨congrArg flt (limV_3 (by assumption) (by assumption)), rfl⟩
    · refine CS.skip ?_
      refine thenC_n ?_
      refine CS.seq ?_
      refine CS.region ?_
      refine RS.q rfl (QO.move) ?_
      refine RS.call rfl (by rfl) ok82 (by rfl) (fun w ho => fix _ _) ?_
      rintro _ _ ⟨rfl, rfl⟩
      refine RS.q rfl (QO.assign) ?_
      refine RS.nil ?_
      refine thenC_n ?_
      refine CS.ret ?_
      refine retQ.mk (H' := []) (.inr rfl) (RVs.tmp (by rfl) RVs.nil) (List.nil_sublist _) ?_
      first | exact ⟨congrArg flt (limV_1 (by assumption)), rfl⟩ | exact ⟨congrArg flt (limV_2 (by assumption) (by assumption)), rfl⟩ | exact ⟨congrArg flt (limV_3 (by assumption) (by assumption)), rfl⟩

set_option maxRecDepth 100000 in
theorem smooth_ (t : Nat) (W : World) : Fn_ Try.prog 71 #[flt t] W (fun v H => v = flt (smoothV t) ∧ H = []) := by
  refine Fn_.intro Try.func71 rfl rfl (by rfl) ?_
  refine CS.seq ?_
  refine CS.region ?_
  refine RS.q rfl (QO.assign) ?_
  refine RS.nil ?_
  refine thenC_n ?_
  refine CS.seq ?_
  refine CS.region ?_
  refine RS.q rfl (QO.move) ?_
  refine RS.call rfl (by rfl) ok125 (by rfl) (fun w ho => limit1 t _) ?_
  rintro _ _ ⟨rfl, rfl⟩
  refine RS.q rfl (QO.assign) ?_
  refine RS.nil ?_
  refine thenC_n ?_
  refine CS.seq ?_
  refine CS.region ?_
  refine RS.q rfl (QO.move) ?_
  refine RS.q rfl (QO.move) ?_
  refine RS.farith rfl (by rfl) (by rfl) (by simp) ?_
  intro r8 hr8
  refine RS.q rfl (QO.move) ?_
  refine RS.farith rfl (by rfl) (by rfl) (by simp) ?_
  intro r10 hr10
  refine RS.farith rfl (by rfl) (by rfl) (by simp) ?_
  intro r11 hr11
  refine RS.farith rfl (by rfl) (by rfl) (by simp) ?_
  intro r12 hr12
  refine RS.call rfl (by rfl) ok57 (by rfl) (fun w ho => clean _ _) ?_
  rintro _ _ ⟨rfl, rfl⟩
  refine RS.q rfl (QO.assign) ?_
  refine RS.nil ?_
  refine thenC_n ?_
  refine CS.ret ?_
  refine retQ.mk (H' := []) (.inr rfl) (RVs.tmp (by rfl) RVs.nil) (List.nil_sublist _) ?_
  exact ⟨congrArg flt (smoothV_is hr8 hr10 hr11 hr12), rfl⟩

set_option maxRecDepth 100000 in
theorem smoothOf (t : Nat) (W : World) : Fn_ Try.prog 80 #[flt t] W (fun v H => v = flt (smoothV t) ∧ H = []) := by
  refine Fn_.intro Try.func80 rfl rfl (by rfl) ?_
  refine CS.seq ?_
  refine CS.region ?_
  refine RS.q rfl (QO.assign) ?_
  refine RS.nil ?_
  refine thenC_n ?_
  refine CS.seq ?_
  refine CS.region ?_
  refine RS.q rfl (QO.move) ?_
  refine RS.call rfl (by rfl) ok130 (by rfl) (fun w ho => limitOf1 t _) ?_
  rintro _ _ ⟨rfl, rfl⟩
  refine RS.q rfl (QO.assign) ?_
  refine RS.nil ?_
  refine thenC_n ?_
  refine CS.seq ?_
  refine CS.region ?_
  refine RS.q rfl (QO.move) ?_
  refine RS.q rfl (QO.move) ?_
  refine RS.farith rfl (by rfl) (by rfl) (by simp) ?_
  intro r8 hr8
  refine RS.q rfl (QO.move) ?_
  refine RS.farith rfl (by rfl) (by rfl) (by simp) ?_
  intro r10 hr10
  refine RS.farith rfl (by rfl) (by rfl) (by simp) ?_
  intro r11 hr11
  refine RS.farith rfl (by rfl) (by rfl) (by simp) ?_
  intro r12 hr12
  refine RS.call rfl (by rfl) ok82 (by rfl) (fun w ho => fix _ _) ?_
  rintro _ _ ⟨rfl, rfl⟩
  refine RS.q rfl (QO.assign) ?_
  refine RS.nil ?_
  refine thenC_n ?_
  refine CS.ret ?_
  refine retQ.mk (H' := []) (.inr rfl) (RVs.tmp (by rfl) RVs.nil) (List.nil_sublist _) ?_
  exact ⟨congrArg flt (smoothV_is hr8 hr10 hr11 hr12), rfl⟩

set_option maxRecDepth 100000 in
theorem near_ (v_ : Nat) (W : World) : Fn_ Try.prog 73 #[flt v_, iv (-1048576), iv 1048576] W (fun v H => ∃ q : Bool, v = .tuple #[iv (nearI v_), .bool q, iv 0] ∧ H = []) := by
  refine Fn_.intro Try.func73 rfl rfl (by rfl) ?_
  refine CS.seq ?_
  refine CS.region ?_
  refine RS.q rfl (QO.assign) ?_
  refine RS.q rfl (QO.assign) ?_
  refine RS.q rfl (QO.assign) ?_
  refine RS.nil ?_
  refine thenC_n ?_
  refine CS.seq ?_
  refine CS.seq ?_
  refine CS.region ?_
  refine RS.q rfl (QO.move) ?_
  refine RS.q rfl (QO.move) ?_
  refine RS.qv rfl (QO.gtr (by rfl) (by rfl)) (congrArg Value.bool (show _ = false from by decide)) ?_
  refine RS.q rfl (QO.move) ?_
  refine RS.on (dj := 13) rfl (congrArg Value.bool rfl) ?_
  refine RS.q rfl (QO.move) ?_
  refine RS.on (dj := 13) rfl (congrArg Value.bool rfl) ?_
  refine RS.qv rfl (QO.lss (by rfl) (by rfl)) (congrArg Value.bool (show _ = false from by decide)) ?_
  refine RS.q rfl (QO.pickF (by rfl) rfl (by rfl)) ?_
  refine RS.q rfl (QO.move) ?_
  refine RS.on (dj := 17) rfl (congrArg Value.bool rfl) ?_
  refine RS.q rfl (QO.move) ?_
  refine RS.on (dj := 17) rfl (congrArg Value.bool rfl) ?_
  refine RS.qv rfl (QO.gtr (by rfl) (by rfl)) (congrArg Value.bool (show _ = false from by decide)) ?_
  refine RS.q rfl (QO.pickF (by rfl) rfl (by rfl)) ?_
  refine RS.q rfl (QO.move) ?_
  refine RS.on (dj := 21) rfl (congrArg Value.bool rfl) ?_
  refine RS.q rfl (QO.move) ?_
  refine RS.on (dj := 21) rfl (congrArg Value.bool rfl) ?_
  refine RS.qv rfl (QO.lss (by rfl) (by rfl)) (congrArg Value.bool (show _ = false from by decide)) ?_
  refine RS.q rfl (QO.pickF (by rfl) rfl (by rfl)) ?_
  refine RS.q rfl (QO.move) ?_
  refine RS.on (dj := 25) rfl (congrArg Value.bool rfl) ?_
  refine RS.q rfl (QO.move) ?_
  refine RS.on (dj := 25) rfl (congrArg Value.bool rfl) ?_
  refine RS.qv rfl (QO.gtr (by rfl) (by rfl)) (congrArg Value.bool (show _ = false from by decide)) ?_
  refine RS.q rfl (QO.pickF (by rfl) rfl (by rfl)) ?_
  refine RS.nil ?_
  refine thenC_n ?_
  refine CS.condF (by rfl) rfl ?_
  refine CS.skip ?_
  refine thenC_n ?_
  refine CS.seq ?_
  refine CS.seq ?_
  refine CS.region ?_
  refine RS.q rfl (QO.move) ?_
  refine RS.q rfl (QO.move) ?_
  refine RS.qv rfl (QO.fcmp32 (by rfl) (by rfl) (by simp)) (congrArg Value.bool (fneq_self v_)) ?_
  refine RS.nil ?_
  refine thenC_n ?_
  refine CS.cond (by rfl) (fun hb0 => ?_) (fun hb0 => ?_)
  · refine CS.seq ?_
    refine CS.region ?_
    refine RS.q rfl (QO.move) ?_
    refine RS.q rfl (QO.assign) ?_
    refine RS.q rfl (QO.assign) ?_
    refine RS.q rfl (QO.assign) ?_
    refine RS.nil ?_
    refine thenC_n ?_
    refine CS.ret ?_
    refine thenC_r ?_
    refine retQ.mk (H' := []) (.inr rfl) (RVs.tmp (by rfl) (RVs.tmp (by rfl) (RVs.tmp (by rfl) RVs.nil))) (List.nil_sublist _) ?_
    first | exact ⟨_, congrArg (fun q => Value.tuple #[iv q, .bool false, iv 0]) (nearI_nan (by assumption)), rfl⟩ | exact ⟨_, congrArg (fun q => Value.tuple #[iv q, .bool false, iv 0]) (nearI_lo (by assumption) (by assumption)), rfl⟩ | exact ⟨_, congrArg (fun q => Value.tuple #[iv q, .bool false, iv 0]) (nearI_hi (by assumption) (by assumption) (by assumption)), rfl⟩ | exact ⟨_, rfl, rfl⟩
  · refine CS.skip ?_
    refine thenC_n ?_
    refine CS.seq ?_
    refine CS.region ?_
    refine RS.q rfl (QO.move) ?_
    refine RS.q rfl (QO.conv_ff (s := .f32) (k := .f64) (by rw [Try.underlying29]; rfl) Try.underlying181 (by rfl) (wdD_ok (by assumption)).1) ?_
    refine RS.q rfl (QO.ext (by rfl) (fun w => rteX (wdD_ok (by assumption)).2 w)) ?_
    refine RS.q rfl (QO.assign) ?_
    refine RS.nil ?_
    refine thenC_n ?_
    refine CS.seq ?_
    refine CS.block ?_
    refine CS.seq ?_
    refine CS.region ?_
    refine RS.q rfl (QO.move) ?_
    refine RS.q rfl (QO.move) ?_
    refine RS.qv rfl (QO.conv_i64_f64 Try.underlying3 Try.underlying181 (by rfl)) (show _ = Value.float .f64 loD from rfl) ?_
    refine RS.q rfl (QO.cmp64 (by rfl) (by rfl) (.inl rfl)) ?_
    refine RS.q rfl (QO.assign) ?_
    refine RS.nil ?_
    refine thenC_n ?_
    refine CS.cond (by rfl) (fun hb1 => ?_) (fun hb1 => ?_)
    · refine CS.seq ?_
      refine CS.region ?_
      refine RS.q rfl (QO.move) ?_
      refine RS.q rfl (QO.assign) ?_
      refine RS.q rfl (QO.assign) ?_
      refine RS.q rfl (QO.assign) ?_
      refine RS.nil ?_
      refine thenC_n ?_
      refine CS.ret ?_
      refine blockC_r ?_
      refine thenC_r ?_
      refine retQ.mk (H' := []) (.inr rfl) (RVs.tmp (by rfl) (RVs.tmp (by rfl) (RVs.tmp (by rfl) RVs.nil))) (List.nil_sublist _) ?_
      first | exact ⟨_, congrArg (fun q => Value.tuple #[iv q, .bool false, iv 0]) (nearI_nan (by assumption)), rfl⟩ | exact ⟨_, congrArg (fun q => Value.tuple #[iv q, .bool false, iv 0]) (nearI_lo (by assumption) (by assumption)), rfl⟩ | exact ⟨_, congrArg (fun q => Value.tuple #[iv q, .bool false, iv 0]) (nearI_hi (by assumption) (by assumption) (by assumption)), rfl⟩ | exact ⟨_, rfl, rfl⟩
    · refine CS.seq ?_
      refine CS.region ?_
      refine RS.q rfl (QO.move) ?_
      refine RS.q rfl (QO.move) ?_
      refine RS.qv rfl (QO.conv_i64_f64 Try.underlying3 Try.underlying181 (by rfl)) (show _ = Value.float .f64 hiD from rfl) ?_
      refine RS.q rfl (QO.cmp64 (by rfl) (by rfl) (.inr rfl)) ?_
      refine RS.q rfl (QO.assign) ?_
      refine RS.nil ?_
      refine thenC_n ?_
      refine CS.cond (by rfl) (fun hb2 => ?_) (fun hb2 => ?_)
      · refine CS.seq ?_
        refine CS.region ?_
        refine RS.q rfl (QO.move) ?_
        refine RS.q rfl (QO.assign) ?_
        refine RS.q rfl (QO.assign) ?_
        refine RS.q rfl (QO.assign) ?_
        refine RS.nil ?_
        refine thenC_n ?_
        refine CS.ret ?_
        refine blockC_r ?_
        refine thenC_r ?_
        refine retQ.mk (H' := []) (.inr rfl) (RVs.tmp (by rfl) (RVs.tmp (by rfl) (RVs.tmp (by rfl) RVs.nil))) (List.nil_sublist _) ?_
        first | exact ⟨_, congrArg (fun q => Value.tuple #[iv q, .bool false, iv 0]) (nearI_nan (by assumption)), rfl⟩ | exact ⟨_, congrArg (fun q => Value.tuple #[iv q, .bool false, iv 0]) (nearI_lo (by assumption) (by assumption)), rfl⟩ | exact ⟨_, congrArg (fun q => Value.tuple #[iv q, .bool false, iv 0]) (nearI_hi (by assumption) (by assumption) (by assumption)), rfl⟩ | exact ⟨_, rfl, rfl⟩
      · refine CS.skip ?_
        refine blockC_n ?_
        refine thenC_n ?_
        refine CS.seq ?_
        refine CS.region ?_
        refine RS.q rfl (QO.move) ?_
        refine RS.q rfl (QO.conv_f64_i64 (by rw [Try.underlying181]; rfl) Try.underlying3 (by rfl) (nearI_in (by assumption) (by assumption) (by assumption))) ?_
        refine RS.q rfl (QO.assign) ?_
        refine RS.q rfl (QO.assign) ?_
        refine RS.q rfl (QO.assign) ?_
        refine RS.nil ?_
        refine thenC_n ?_
        refine CS.ret ?_
        refine retQ.mk (H' := []) (.inr rfl) (RVs.tmp (by rfl) (RVs.tmp (by rfl) (RVs.tmp (by rfl) RVs.nil))) (List.nil_sublist _) ?_
        first | exact ⟨_, congrArg (fun q => Value.tuple #[iv q, .bool false, iv 0]) (nearI_nan (by assumption)), rfl⟩ | exact ⟨_, congrArg (fun q => Value.tuple #[iv q, .bool false, iv 0]) (nearI_lo (by assumption) (by assumption)), rfl⟩ | exact ⟨_, congrArg (fun q => Value.tuple #[iv q, .bool false, iv 0]) (nearI_hi (by assumption) (by assumption) (by assumption)), rfl⟩ | exact ⟨_, rfl, rfl⟩

set_option maxRecDepth 100000 in
theorem nearOf (v_ : Nat) (W : World) : Fn_ Try.prog 84 #[flt v_, iv (-1048576), iv 1048576] W (fun v H => ∃ q : Bool, v = .tuple #[iv (nearI v_), .bool q] ∧ H = []) := by
  refine Fn_.intro Try.func84 rfl rfl (by rfl) ?_
  refine CS.seq ?_
  refine CS.region ?_
  refine RS.q rfl (QO.assign) ?_
  refine RS.q rfl (QO.assign) ?_
  refine RS.nil ?_
  refine thenC_n ?_
  refine CS.seq ?_
  refine CS.seq ?_
  refine CS.region ?_
  refine RS.q rfl (QO.move) ?_
  refine RS.q rfl (QO.move) ?_
  refine RS.qv rfl (QO.fcmp32 (by rfl) (by rfl) (by simp)) (congrArg Value.bool (fneq_self v_)) ?_
  refine RS.nil ?_
  refine thenC_n ?_
  refine CS.cond (by rfl) (fun hb0 => ?_) (fun hb0 => ?_)
  · refine CS.seq ?_
    refine CS.region ?_
    refine RS.q rfl (QO.move) ?_
    refine RS.q rfl (QO.assign) ?_
    refine RS.q rfl (QO.assign) ?_
    refine RS.nil ?_
    refine thenC_n ?_
    refine CS.ret ?_
    refine thenC_r ?_
    refine retQ.mk (H' := []) (.inr rfl) (RVs.tmp (by rfl) (RVs.tmp (by rfl) RVs.nil)) (List.nil_sublist _) ?_
    first | exact ⟨_, congrArg (fun q => Value.tuple #[iv q, .bool false]) (nearI_nan (by assumption)), rfl⟩ | exact ⟨_, congrArg (fun q => Value.tuple #[iv q, .bool false]) (nearI_lo (by assumption) (by assumption)), rfl⟩ | exact ⟨_, congrArg (fun q => Value.tuple #[iv q, .bool false]) (nearI_hi (by assumption) (by assumption) (by assumption)), rfl⟩ | exact ⟨_, rfl, rfl⟩
  · refine CS.skip ?_
    refine thenC_n ?_
    refine CS.seq ?_
    refine CS.region ?_
    refine RS.q rfl (QO.move) ?_
    refine RS.q rfl (QO.conv_ff (s := .f32) (k := .f64) (by rw [Try.underlying29]; rfl) Try.underlying181 (by rfl) (wdD_ok (by assumption)).1) ?_
    refine RS.q rfl (QO.ext (by rfl) (fun w => rteX (wdD_ok (by assumption)).2 w)) ?_
    refine RS.q rfl (QO.assign) ?_
    refine RS.nil ?_
    refine thenC_n ?_
    refine CS.seq ?_
    refine CS.block ?_
    refine CS.seq ?_
    refine CS.region ?_
    refine RS.q rfl (QO.move) ?_
    refine RS.q rfl (QO.move) ?_
    refine RS.qv rfl (QO.conv_i64_f64 Try.underlying3 Try.underlying181 (by rfl)) (show _ = Value.float .f64 loD from rfl) ?_
    refine RS.q rfl (QO.cmp64 (by rfl) (by rfl) (.inl rfl)) ?_
    refine RS.q rfl (QO.assign) ?_
    refine RS.nil ?_
    refine thenC_n ?_
    refine CS.cond (by rfl) (fun hb1 => ?_) (fun hb1 => ?_)
    · refine CS.seq ?_
      refine CS.region ?_
      refine RS.q rfl (QO.move) ?_
      refine RS.q rfl (QO.assign) ?_
      refine RS.q rfl (QO.assign) ?_
      refine RS.nil ?_
      refine thenC_n ?_
      refine CS.ret ?_
      refine blockC_r ?_
      refine thenC_r ?_
      refine retQ.mk (H' := []) (.inr rfl) (RVs.tmp (by rfl) (RVs.tmp (by rfl) RVs.nil)) (List.nil_sublist _) ?_
      first | exact ⟨_, congrArg (fun q => Value.tuple #[iv q, .bool false]) (nearI_nan (by assumption)), rfl⟩ | exact ⟨_, congrArg (fun q => Value.tuple #[iv q, .bool false]) (nearI_lo (by assumption) (by assumption)), rfl⟩ | exact ⟨_, congrArg (fun q => Value.tuple #[iv q, .bool false]) (nearI_hi (by assumption) (by assumption) (by assumption)), rfl⟩ | exact ⟨_, rfl, rfl⟩
    · refine CS.seq ?_
      refine CS.region ?_
      refine RS.q rfl (QO.move) ?_
      refine RS.q rfl (QO.move) ?_
      refine RS.qv rfl (QO.conv_i64_f64 Try.underlying3 Try.underlying181 (by rfl)) (show _ = Value.float .f64 hiD from rfl) ?_
      refine RS.q rfl (QO.cmp64 (by rfl) (by rfl) (.inr rfl)) ?_
      refine RS.q rfl (QO.assign) ?_
      refine RS.nil ?_
      refine thenC_n ?_
      refine CS.cond (by rfl) (fun hb2 => ?_) (fun hb2 => ?_)
      · refine CS.seq ?_
        refine CS.region ?_
        refine RS.q rfl (QO.move) ?_
        refine RS.q rfl (QO.assign) ?_
        refine RS.q rfl (QO.assign) ?_
        refine RS.nil ?_
        refine thenC_n ?_
        refine CS.ret ?_
        refine blockC_r ?_
        refine thenC_r ?_
        refine retQ.mk (H' := []) (.inr rfl) (RVs.tmp (by rfl) (RVs.tmp (by rfl) RVs.nil)) (List.nil_sublist _) ?_
        first | exact ⟨_, congrArg (fun q => Value.tuple #[iv q, .bool false]) (nearI_nan (by assumption)), rfl⟩ | exact ⟨_, congrArg (fun q => Value.tuple #[iv q, .bool false]) (nearI_lo (by assumption) (by assumption)), rfl⟩ | exact ⟨_, congrArg (fun q => Value.tuple #[iv q, .bool false]) (nearI_hi (by assumption) (by assumption) (by assumption)), rfl⟩ | exact ⟨_, rfl, rfl⟩
      · refine CS.skip ?_
        refine blockC_n ?_
        refine thenC_n ?_
        refine CS.seq ?_
        refine CS.region ?_
        refine RS.q rfl (QO.move) ?_
        refine RS.q rfl (QO.conv_f64_i64 (by rw [Try.underlying181]; rfl) Try.underlying3 (by rfl) (nearI_in (by assumption) (by assumption) (by assumption))) ?_
        refine RS.q rfl (QO.assign) ?_
        refine RS.q rfl (QO.assign) ?_
        refine RS.nil ?_
        refine thenC_n ?_
        refine CS.ret ?_
        refine retQ.mk (H' := []) (.inr rfl) (RVs.tmp (by rfl) (RVs.tmp (by rfl) RVs.nil)) (List.nil_sublist _) ?_
        first | exact ⟨_, congrArg (fun q => Value.tuple #[iv q, .bool false]) (nearI_nan (by assumption)), rfl⟩ | exact ⟨_, congrArg (fun q => Value.tuple #[iv q, .bool false]) (nearI_lo (by assumption) (by assumption)), rfl⟩ | exact ⟨_, congrArg (fun q => Value.tuple #[iv q, .bool false]) (nearI_hi (by assumption) (by assumption) (by assumption)), rfl⟩ | exact ⟨_, rfl, rfl⟩

set_option maxRecDepth 100000 in
theorem rdivS (a b x y z s : Nat) (W : World) (h1 : floatToFloatBits .f32 a .f64 = some x) (h2 : floatToFloatBits .f32 b .f64 = some y) (h3 : Ieee.double.div x y = some z) (h4 : floatToFloatBits .f64 z .f32 = some s) : Fn_ Try.prog 78 #[flt a, flt b] W (fun v H => v = flt s ∧ H = []) := by
  refine Fn_.intro Try.func78 rfl rfl (by rfl) ?_
  refine CS.seq ?_
  refine CS.region ?_
  refine RS.q rfl (QO.assign) ?_
  refine RS.nil ?_
  refine thenC_n ?_
  refine CS.seq ?_
  refine CS.region ?_
  refine RS.q rfl (QO.move) ?_
  refine RS.q rfl (QO.conv_ff (s := .f32) (k := .f64) (by rw [Try.underlying29]; rfl) Try.underlying181 (by rfl) h1) ?_
  refine RS.q rfl (QO.move) ?_
  refine RS.q rfl (QO.conv_ff (s := .f32) (k := .f64) (by rw [Try.underlying29]; rfl) Try.underlying181 (by rfl) h2) ?_
  refine RS.q rfl (QO.quo64 (by rfl) (by rfl) h3) ?_
  refine RS.q rfl (QO.conv_ff (s := .f64) (k := .f32) (by rw [Try.underlying181]; rfl) Try.underlying29 (by rfl) h4) ?_
  refine RS.q rfl (QO.assign) ?_
  refine RS.nil ?_
  refine thenC_n ?_
  refine CS.ret ?_
  refine retQ.mk (H' := []) (.inr rfl) (RVs.tmp (by rfl) RVs.nil) (List.nil_sublist _) ?_
  exact ⟨rfl, rfl⟩

set_option maxRecDepth 100000 in
theorem raddS (a b x y z s : Nat) (W : World) (h1 : floatToFloatBits .f32 a .f64 = some x) (h2 : floatToFloatBits .f32 b .f64 = some y) (h3 : Ieee.double.add x y = some z) (h4 : floatToFloatBits .f64 z .f32 = some s) : Fn_ Try.prog 87 #[flt a, flt b] W (fun v H => v = flt s ∧ H = []) := by
  refine Fn_.intro Try.func87 rfl rfl (by rfl) ?_
  refine CS.seq ?_
  refine CS.region ?_
  refine RS.q rfl (QO.assign) ?_
  refine RS.nil ?_
  refine thenC_n ?_
  refine CS.seq ?_
  refine CS.region ?_
  refine RS.q rfl (QO.move) ?_
  refine RS.q rfl (QO.conv_ff (s := .f32) (k := .f64) (by rw [Try.underlying29]; rfl) Try.underlying181 (by rfl) h1) ?_
  refine RS.q rfl (QO.move) ?_
  refine RS.q rfl (QO.conv_ff (s := .f32) (k := .f64) (by rw [Try.underlying29]; rfl) Try.underlying181 (by rfl) h2) ?_
  refine RS.q rfl (QO.add64 (by rfl) (by rfl) h3) ?_
  refine RS.q rfl (QO.conv_ff (s := .f64) (k := .f32) (by rw [Try.underlying181]; rfl) Try.underlying29 (by rfl) h4) ?_
  refine RS.q rfl (QO.assign) ?_
  refine RS.nil ?_
  refine thenC_n ?_
  refine CS.ret ?_
  refine retQ.mk (H' := []) (.inr rfl) (RVs.tmp (by rfl) RVs.nil) (List.nil_sublist _) ?_
  exact ⟨rfl, rfl⟩

theorem rdivK (p q : Int) (W : World) (h0 : 0 ≤ p) (h1 : p < q) (h2 : q ≤ 16777216) : Fn_ Try.prog 78 #[flt (cvF p), flt (cvF q)] W (fun v H => v = flt (tV0 p q) ∧ H = []) := by
  obtain ⟨_, x, y, z, k1, k2, k3, k4⟩ := t_div h0 h1 h2
  exact rdivS _ _ x y z _ W k1 k2 k3 k4
theorem raddK (x : Nat) (d : Int) (W : World) (hn : numB x = true) (h : outF x 3380609024 1233125376 = false) (hd : d.natAbs ≤ 16777215) : Fn_ Try.prog 87 #[flt x, flt (cvF d)] W (fun v H => v = flt (addV x d) ∧ H = []) := by
  obtain ⟨_, p, q, z, k1, k2, k3, k4⟩ := add_moved hn h hd
  exact raddS _ _ p q z _ W k1 k2 k3 k4

end Go.Proofs.Ytapcgokcfmklbaa

namespace Go.Proofs.Ytapcgokcfmklbaa
open Go Go.RowKit

theorem fr_some {o : Option Nat} {r s : Nat} (h : FR o r) (h1 : o = some s) : r = s := by subst h1; exact h
theorem tvc_3 {a b : KF} {f : Int} {t0 : Nat} (h : a.ease = 3) (h0 : t0 = tV0 (f - a.frame) (b.frame - a.frame)) : smoothV t0 = tV a b f := by rw [tV_3 h, h0]
theorem tvc_1 {a b : KF} {f : Int} (h : a.ease = 1) : 0 = tV a b f := (tV_1 h).symm
theorem tvc_2 {a b : KF} {f : Int} {t0 : Nat} (h : ¬ a.ease = 3) (h1 : ¬ a.ease = 1) (h0 : t0 = tV0 (f - a.frame) (b.frame - a.frame)) : t0 = tV a b f := by rw [tV_2 h h1, h0]
theorem betw_m {l : List KF} {f : Int} {i tt : Nat} {a b : KF} (h : cntK f l = i) (h0 : i ≠ 0) (h1 : ¬ (i = l.length ∨ a.frame = f)) (ha : l.getD (i - 1) default = a) (hb : l.getD i default = b) (ht : tt = tV a b f) : betw l f = mixW a.win b.win tt := by
  subst ha hb
  rw [betw_2 h h0 h1, ht]
theorem betw_e {l : List KF} {f : Int} {i : Nat} {a : KF} (h : cntK f l = i) (h0 : i ≠ 0) (ha : l.getD (i - 1) default = a) (h1 : i = l.length ∨ a.frame = f) : betw l f = a.win := by
  subst ha; exact betw_1 h h0 h1
def wV (u : Win) (A : Option Addr) (c : Nat) : Value := .agg #[iv u.kind, flt u.x, flt u.y, flt u.w, flt u.h, flt u.soft, .slice A u.pts.length c, .bool u.out]
theorem retB {u w : Win} {A : Option Addr} {c : Nat} {e : Int} (h : u = w) : Value.tuple #[.agg #[iv w.kind, flt w.x, flt w.y, flt w.w, flt w.h, flt w.soft, .slice A w.pts.length c, .bool w.out], iv e] = .tuple #[wV u A c, iv e] := by rw [h]; rfl
theorem ret1 {u w : Win} {A : Option Addr} {c : Nat} (h : u = w) : Value.agg #[iv w.kind, flt w.x, flt w.y, flt w.w, flt w.h, flt w.soft, .slice A w.pts.length c, .bool w.out] = wV u A c := by rw [h]; rfl
theorem ownB {u w : Win} {A : Option Addr} {H : HL} (h : u = w) (hO : OwnP A w.pts H) : OwnP A u.pts H := by rw [h]; exact hO
theorem mixEnd {u a b : Win} {tt c : Nat} {A : Option Addr} {e : Int} (h : u = mixW a b tt) : Value.tuple #[.agg #[iv a.kind, flt (lerpV a.x b.x tt), flt (lerpV a.y b.y tt), flt (lerpV a.w b.w tt), flt (lerpV a.h b.h tt), flt (lerpV a.soft b.soft tt), .slice A a.pts.length c, .bool a.out], iv e] = .tuple #[wV u A c, iv e] := by
  rw [h]; unfold wV mixW; simp only [mixPs_len]
theorem mixEnd1 {u a b : Win} {tt c : Nat} {A : Option Addr} (h : u = mixW a b tt) : Value.agg #[iv a.kind, flt (lerpV a.x b.x tt), flt (lerpV a.y b.y tt), flt (lerpV a.w b.w tt), flt (lerpV a.h b.h tt), flt (lerpV a.soft b.soft tt), .slice A a.pts.length c, .bool a.out] = wV u A c := by
  rw [h]; unfold wV mixW; simp only [mixPs_len]
theorem mixNil {u a b : Win} {tt : Nat} (h : u = mixW a b tt) (ha : a.pts = []) : u.pts = [] := by
  rw [h]; unfold mixW; rw [ha]; rfl
theorem ownNil {u : Win} {A : Option Addr} {H : HL} (h : u.pts = []) : OwnP A u.pts H := by rw [h]; exact OwnP.nil
theorem ownMix {u a b : Win} {tt g t k : Nat} {junk : List Value} (h : u = mixW a b tt) (hk : k = a.pts.length) : OwnP (some ⟨g, 0, none⟩) u.pts [⟨g, t, psC (mixPs a.pts b.pts tt k) ++ junk⟩] := by rw [h, hk]; exact OwnP.blk
theorem PS.cell_ {W : World} {A : Option Addr} {l : List (Int × Int)} {b o : Nat} (h : PS W A l) (hA : A = some ⟨b, o, none⟩) {i j q : Nat} {v : Value} (hi : i < l.length) (hq : q = o + i * 2 + j) (hv : ([iv (l.getD i (0, 0)).1, iv (l.getD i (0, 0)).2] : List Value)[j]? = some v) : W.cell? ⟨b, q, none⟩ = some v := by
  obtain ⟨b', o', e1, h1⟩ := h (by omega)
  rw [hA] at e1
  injection e1 with e2
  injection e2 with e3 e4
  subst e3 e4
  have := h1 i hi j v hv
  rwa [addr_add, ← hq] at this
theorem PS.isS {W : World} {A : Option Addr} {l : List (Int × Int)} (h : PS W A l) (h0 : 0 < l.length) : ∃ b o, A = Option.some ⟨b, o, none⟩ := by
  obtain ⟨b, o, h1, _⟩ := h h0
  exact ⟨b, o, h1⟩
end Go.Proofs.Ytapcgokcfmklbaa
