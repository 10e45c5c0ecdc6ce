/-
  The law KeyFramesMatch of the given rows: at every input the call returns true and leaves its arguments as they were. Conditions: none.
-/
import Derived.Test.YtapcgokcfmklbaaY6
import Derived.Test.YtapcgokcfmklbaaRows
import Derived.WalkKit
import Derived.ProofKit
import Derived.OpenShut
import Derived.ShutString
import Derived.ChangeOld
import Derived.Below
namespace Go.Proofs.Ytapcgokcfmklbaa
open Go Go.Proofs Go.RowKit

theorem pl31 : places Try.prog 31 = some #[(0, 1), (1, 1)] := by kernel_rfl
theorem ok76 : callOK Try.prog 76 = true := by kernel_rfl
theorem ok77 : callOK Try.prog 77 = true := by kernel_rfl
theorem ok78 : callOK Try.prog 78 = true := by kernel_rfl
theorem ok80 : callOK Try.prog 80 = true := by kernel_rfl
theorem ok81 : callOK Try.prog 81 = true := by kernel_rfl
theorem ok84 : callOK Try.prog 84 = true := by kernel_rfl

set_option maxRecDepth 100000 in
theorem gtK (k : KF) (frame : Int) (gb : Nat) (W : World) (hb : W.cell? ⟨gb, 0, none⟩ = some (iv frame)) : Fn_ Try.prog 77 #[.agg #[iv k.frame, iv k.ease, iv k.win.kind, flt k.win.x, flt k.win.y, flt k.win.w, flt k.win.h, flt k.win.soft, .slice k.A k.win.pts.length k.c, .bool k.win.out], .pointer (some ⟨gb, 0, none⟩)] W (fun v H => v = .bool (decide (frame < k.frame)) ∧ H = []) := by
  refine Fn_.intro Try.func77 rfl rfl (by rfl) ?_
  refine CS.seq ?_
  refine CS.region ?_
  refine RS.box rfl (by rfl) (by rfl) ?_
  intro g2
  refine RS.q rfl (QO.assign) ?_
  refine RS.nil ?_
  refine thenC_n ?_
  refine CS.seq ?_
  refine CS.region ?_
  refine RS.q rfl (QO.fieldAddr fo67_0 (by rfl)) ?_
  first | (refine RS.q rfl (QO.load ty3 (by rfl) (by repeat (first | exact List.Mem.head _ | refine List.Mem.tail _ ?_)) (by rfl)) ?_) | (refine RS.q rfl (QO.loadO ty3 (by rfl) (by assumption)) ?_) | (refine RS.q rfl (QO.load ty3 (by rfl) (by repeat (first | exact List.Mem.head _ | refine List.Mem.tail _ ?_)) (by assumption)) ?_)
  refine RS.q rfl (QO.loadO ty3 (by rfl) hb) ?_
  refine RS.q rfl (QO.gtr (by rfl) (by rfl)) ?_
  refine RS.q rfl (QO.assign) ?_
  refine RS.nil ?_
  refine thenC_n ?_
  refine CS.ret ?_
  refine retQ.mk (H' := []) (.inr rfl) (RVs.tmp (by rfl) RVs.nil) (List.nil_sublist _) ?_
  exact ⟨rfl, rfl⟩

set_option maxRecDepth 100000 in
theorem indexK (A : Option Addr) (c : Nat) (l : List KF) (frame q : Int) (gb : Nat) (W : World) (hA : KS W A l) (hm : l.length ≤ maxLen) (hb : W.cell? ⟨gb, 0, none⟩ = some (iv frame)) (hq : (if cntK frame l < l.length then (cntK frame l : Int) else -1) = q) : Fn_ Try.prog 76 #[.slice A l.length c, .func (.func 77) #[] #[.pointer (some ⟨gb, 0, none⟩)]] W (fun v H => v = iv q ∧ H = []) := by
  unfold maxLen at hm
  refine Fn_.intro Try.func76 rfl rfl (by rfl) ?_
  refine CS.seq ?_
  refine CS.region ?_
  refine RS.q rfl (QO.assign) ?_
  refine RS.nil ?_
  refine thenC_n ?_
  refine CS.seq ?_
  refine CS.seq ?_
  refine CS.region ?_
  refine RS.q rfl (QO.move) ?_
  refine RS.q rfl (QO.lenS Try.underlying57 (by rfl)) ?_
  refine RS.q rfl (QO.move) ?_
  refine RS.nil ?_
  refine thenC_n ?_
  refine CS.block ?_
  refine CS.loop (X := Nat) (4 :: 5 :: 8 :: 9 :: 10 :: 11 :: 12 :: 13 :: 14 :: 15 :: 16 :: 17 :: 18 :: []) (fun k => [(8, iv (k : Int))]) (fun k => []) (fun k => k ≤ l.length ∧ ∀ j, j < k → (l.getD j default).frame ≤ frame) (fun k => l.length - k) 0 ⟨Nat.zero_le _, fun i h => absurd h (Nat.not_lt_zero _)⟩ ?_ ?_ ?_
  · exact (by repeat (first | exact kn_nil | refine kn_cons (by rfl) ?_))
  · exact (by repeat (first | exact List.Sublist.refl _ | exact List.nil_sublist _ | refine List.Sublist.cons_cons _ ?_ | refine List.Sublist.cons _ ?_ | exact Sbp.refl | exact Sbp.nil | refine Sbp.cons (by repeat (first | exact Rem.head | apply Rem.tail)) ?_ | exact Sbp.app | refine Sbp.skip ?_))
  · intro k gj2 hz
    obtain ⟨hk, hall⟩ := hz
    refine CS.seq ?_
    refine CS.region ?_
    refine RS.q rfl (QO.lss (by rfl) (by rfl)) ?_
    refine RS.nil ?_
    refine thenC_n ?_
    refine CS.seq ?_
    refine CS.cond (by rfl) (fun hb0 => ?_) (fun hb0 => ?_)
    · have hb0p := of_decide_eq_true hb0
      refine CS.skip ?_
      refine thenC_n ?_
      refine CS.seq ?_
      refine CS.block ?_
      refine CS.seq ?_
      refine CS.region ?_
      refine RS.q rfl (QO.move) ?_
      refine RS.q rfl (QO.assign) ?_
      refine RS.nil ?_
      refine thenC_n ?_
      refine CS.seq ?_
      refine CS.region ?_
      refine RS.q rfl (QO.move) ?_
      have hx1 := hA.isS (by omega)
      obtain ⟨bA, oA, e1⟩ := hx1
      subst e1
      have hd := hA.whole (i := k) (show k < l.length by omega) (q := oA + (k : Int).toNat * 10) (by omega)
      refine RS.q rfl (QO.move) ?_
      refine RS.q rfl (QO.move) ?_
      refine RS.q rfl (QO.idx Try.underlying57 ty67 (by rfl) (by rfl) (by omega) (by omega)) ?_
      refine RS.q rfl (QO.loadOA ty67 (vs := kfC (l.getD k default)) (by rfl) hd (by rfl)) ?_
      refine RS.call rfl (by rfl) ok77 (by rfl) (fun w ho => gtK (l.getD k default) frame gb _ (ho.old hb)) ?_
      rintro _ _ ⟨rfl, rfl⟩
      refine RS.nil ?_
      refine thenC_n ?_
      refine CS.cond (by rfl) (fun hb1 => ?_) (fun hb1 => ?_)
      · refine CS.seq ?_
        refine CS.region ?_
        refine RS.q rfl (QO.move) ?_
        refine RS.q rfl (QO.assign) ?_
        refine RS.nil ?_
        refine thenC_n ?_
        refine CS.ret ?_
        refine blockC_r ?_
        refine thenC_r ?_
        refine loopQ_r ?_
        refine blockC_r ?_
        refine thenC_r ?_
        refine retQ.mk (H' := []) (.inr rfl) (RVs.tmp (by rfl) RVs.nil) (List.nil_sublist _) ?_
        first | exact ⟨congrArg iv ((idxK_1 (by omega) hall (of_decide_eq_true (by assumption))).trans hq), rfl⟩ | exact ⟨congrArg iv ((idxK_2 (by omega) hall).trans hq), rfl⟩
      · refine CS.skip ?_
        refine blockC_n ?_
        refine thenC_n ?_
        refine CS.region ?_
        first | (refine RS.q rfl (QO.add (by rfl) (by rfl) (by omega) (by omega)) ?_) | (refine RS.q rfl (QO.ibin (by rfl) (by rfl) trivial) ?_)
        refine RS.q rfl (QO.move) ?_
        refine RS.nil ?_
        refine loopQ_n (by intro t ht; repeat (first | with_reducible exact rfl | exact frame_puts ht (frame_mix ht) _ rfl | (refine frame_put rfl ht ?_) | (refine frame_puts ht ?_ _ rfl) | exact frame_mix ht | (refine frame_mix2 rfl ht ?_) | exact rfl)) ?_
        exact ⟨k + 1, ⟨by omega, fun i hi => by
            by_cases e : i = k
            · subst e; exact Int.not_lt.1 (of_decide_eq_false (by assumption))
            · exact hall i (by omega)⟩, by omega, (by repeat (first | exact kn_nil | refine kn_cons (by rfl) ?_)), (by repeat (first | exact List.Sublist.refl _ | exact List.nil_sublist _ | refine List.Sublist.cons_cons _ ?_ | refine List.Sublist.cons _ ?_ | exact Sbp.refl | exact Sbp.nil | refine Sbp.cons (by repeat (first | exact Rem.head | apply Rem.tail)) ?_ | exact Sbp.app | refine Sbp.skip ?_))⟩
    · have hb0p := of_decide_eq_false hb0
      refine CS.exit ?_
      refine thenC_x ?_
      refine loopQ_x ?_
      refine blockC_x ?_
      refine thenC_n ?_
      refine CS.seq ?_
      refine CS.region ?_
      refine RS.q rfl (QO.assign) ?_
      refine RS.nil ?_
      refine thenC_n ?_
      refine CS.ret ?_
      refine retQ.mk (H' := []) (.inr rfl) (RVs.tmp (by rfl) RVs.nil) (List.nil_sublist _) ?_
      first | exact ⟨congrArg iv ((idxK_1 (by omega) hall (of_decide_eq_true (by assumption))).trans hq), rfl⟩ | exact ⟨congrArg iv ((idxK_2 (by omega) hall).trans hq), rfl⟩

set_option maxRecDepth 100000 in
theorem mixC (x y t gb : Nat) (W : World) (hb : W.cell? ⟨gb, 0, none⟩ = some (flt t)) : Fn_ Try.prog 81 #[flt x, flt y, .pointer (some ⟨gb, 0, none⟩)] W (fun v H => v = flt (lerpV x y t) ∧ H = []) := by
  refine Fn_.intro Try.func81 rfl rfl (by rfl) ?_
  refine CS.seq ?_
  refine CS.region ?_
  refine RS.q rfl (QO.assign) ?_
  refine RS.nil ?_
  refine thenC_n ?_
  refine CS.seq ?_
  refine CS.region ?_
  refine RS.q rfl (QO.move) ?_
  refine RS.q rfl (QO.move) ?_
  refine RS.q rfl (QO.loadO ty29 (by rfl) hb) ?_
  refine RS.call rfl (by rfl) ok83 (by rfl) (fun w ho => lerpOf _ _ _ _) ?_
  rintro _ _ ⟨rfl, rfl⟩
  refine RS.call rfl (by rfl) ok82 (by rfl) (fun w ho => fix _ _) ?_
  rintro _ _ ⟨rfl, rfl⟩
  refine RS.q rfl (QO.assign) ?_
  refine RS.nil ?_
  refine thenC_n ?_
  refine CS.ret ?_
  refine retQ.mk (H' := []) (.inr rfl) (RVs.tmp (by rfl) RVs.nil) (List.nil_sublist _) ?_
  exact ⟨congrArg flt (cl_lerpV _ _ _), rfl⟩

set_option maxRecDepth 100000 in
theorem bfA (A : Option Addr) (c : Nat) (l : List KF) (frame : Int) (W : World) (hA : KS W A l) (he : frE l = 0) (hc : cntK frame l = 0) : Fn_ Try.prog 27 #[.slice A l.length c, iv frame] W (fun v H => ∃ A2 c2, v = wV (betw l frame) A2 c2 ∧ PtsOf l A2 (betw l frame).pts H) := by
  obtain ⟨hl1, hl2, hall⟩ := frE_ok he
  obtain ⟨bA, oA, e1⟩ := hA.isS (show 0 < l.length by omega)
  subst e1
  obtain ⟨k0, hk0⟩ : ∃ q, l.getD 0 default = q := ⟨_, rfl⟩
  refine Fn_.intro Try.func27 rfl rfl (by rfl) ?_
  refine CS.seq ?_
  refine CS.region ?_
  refine RS.box rfl (by rfl) (by rfl) ?_
  intro g3
  refine RS.alloc rfl ty61 ?_
  intro g4
  refine RS.nil ?_
  refine thenC_n ?_
  refine CS.seq ?_
  refine CS.region ?_
  refine RS.q rfl (QO.move) ?_
  refine RS.q rfl (QO.makeFunc) ?_
  refine RS.call rfl (by rfl) ok76 (by rfl) (fun w ho => indexK (some ⟨bA, oA, none⟩) c l frame 0 g3 _ (hA.own ho) (by unfold maxLen; omega) (cell1Own (t := 3) ho (by repeat (first | exact List.Mem.head _ | refine List.Mem.tail _ ?_))) (by rw [hc]; exact if_pos (by omega))) ?_
  rintro _ _ ⟨rfl, rfl⟩
  refine RS.q rfl (QO.assign) ?_
  refine RS.nil ?_
  refine thenC_n ?_
  refine CS.seq ?_
  refine CS.block ?_
  refine CS.seq ?_
  refine CS.region ?_
  refine RS.q rfl (QO.move) ?_
  refine RS.q rfl (QO.eql (by rfl) (by rfl)) ?_
  refine RS.q rfl (QO.assign) ?_
  refine RS.nil ?_
  refine thenC_n ?_
  refine CS.condT (by rfl) rfl ?_
  refine CS.seq ?_
  refine CS.region ?_
  refine RS.q rfl (QO.move) ?_
  have hd0 := hA.win (i := 0) (show 0 < l.length by omega) (q := oA + (0 : Int).toNat * 10 + 2) rfl
  rw [hk0] at hd0
  refine RS.q rfl (QO.idx Try.underlying57 ty67 (by rfl) (by rfl) (by omega) (by omega)) ?_
  refine RS.q rfl (QO.fieldAddr fo67_2 (by rfl)) ?_
  refine RS.q rfl (QO.loadOA ty61 (vs := winC k0.win k0.A k0.c) (by rfl) hd0 (by rfl)) ?_
  first | refine RS.storeB ty61 (by rfl) (by rfl) (by rfl) (by rfl) (by rfl) (by repeat (first | exact Upd.head | apply Upd.tail)) (by rfl) ?_ | refine RS.storeP ty61 (by rfl) (by rfl) (by rfl) (by rfl) (by rfl) (by repeat (first | exact Upd.head | apply Upd.tail)) (by rfl) ?_
  refine RS.nil ?_
  refine thenC_n ?_
  refine CS.ret ?_
  refine blockC_r ?_
  refine thenC_r ?_
  refine retQ.mk (H' := []) (.inr rfl) (RVs.cellA ty61 (by rfl) (by repeat (first | exact List.Mem.head _ | refine List.Mem.tail _ ?_)) (by rfl) RVs.nil) (List.nil_sublist _) ?_
  exact ⟨k0.A, k0.c, ret1 ((betw_0 hc).trans (congrArg KF.win hk0)), .inr ⟨0, by omega, by rw [hk0], by rw [betw_0 hc]⟩⟩

set_option maxRecDepth 100000 in
theorem bfB (A : Option Addr) (c : Nat) (l : List KF) (frame : Int) (W : World) (hA : KS W A l) (he : frE l = 0) (hc : cntK frame l = l.length) : Fn_ Try.prog 27 #[.slice A l.length c, iv frame] W (fun v H => ∃ A2 c2, v = wV (betw l frame) A2 c2 ∧ PtsOf l A2 (betw l frame).pts H) := by
  obtain ⟨hl1, hl2, hall⟩ := frE_ok he
  obtain ⟨bA, oA, e1⟩ := hA.isS (show 0 < l.length by omega)
  subst e1
  obtain ⟨ka, hka⟩ : ∃ q, l.getD (l.length - 1) default = q := ⟨_, rfl⟩
  refine Fn_.intro Try.func27 rfl rfl (by rfl) ?_
  refine CS.seq ?_
  refine CS.region ?_
  refine RS.box rfl (by rfl) (by rfl) ?_
  intro g3
  refine RS.alloc rfl ty61 ?_
  intro g4
  refine RS.nil ?_
  refine thenC_n ?_
  refine CS.seq ?_
  refine CS.region ?_
  refine RS.q rfl (QO.move) ?_
  refine RS.q rfl (QO.makeFunc) ?_
  refine RS.call rfl (by rfl) ok76 (by rfl) (fun w ho => indexK (some ⟨bA, oA, none⟩) c l frame (-1) g3 _ (hA.own ho) (by unfold maxLen; omega) (cell1Own (t := 3) ho (by repeat (first | exact List.Mem.head _ | refine List.Mem.tail _ ?_))) (by rw [hc]; exact if_neg (by omega))) ?_
  rintro _ _ ⟨rfl, rfl⟩
  refine RS.q rfl (QO.assign) ?_
  refine RS.nil ?_
  refine thenC_n ?_
  refine CS.seq ?_
  refine CS.block ?_
  refine CS.seq ?_
  refine CS.region ?_
  refine RS.q rfl (QO.move) ?_
  refine RS.qv rfl (QO.eql (by rfl) (by rfl)) (congrArg Value.bool (show ((-1 : Int) == 0) = false from by decide)) ?_
  refine RS.q rfl (QO.assign) ?_
  refine RS.nil ?_
  refine thenC_n ?_
  refine CS.condF (by rfl) rfl ?_
  refine CS.seq ?_
  refine CS.region ?_
  refine RS.q rfl (QO.move) ?_
  refine RS.qv rfl (QO.lss (by rfl) (by rfl)) (congrArg Value.bool (show decide ((-1 : Int) < 0) = true from by decide)) ?_
  refine RS.q rfl (QO.assign) ?_
  refine RS.nil ?_
  refine thenC_n ?_
  refine CS.condT (by rfl) rfl ?_
  refine CS.seq ?_
  refine CS.region ?_
  refine RS.q rfl (QO.move) ?_
  refine RS.q rfl (QO.move) ?_
  refine RS.q rfl (QO.lenS Try.underlying57 (by rfl)) ?_
  first | (refine RS.q rfl (QO.sub (by rfl) (by rfl) (by omega) (by omega)) ?_) | (refine RS.q rfl (QO.ibin (by rfl) (by rfl) trivial) ?_)
  have hd0 := hA.win (i := l.length - 1) (show l.length - 1 < l.length by omega) (q := oA + ((l.length : Int) - 1).toNat * 10 + 2) (by omega)
  rw [hka] at hd0
  refine RS.q rfl (QO.idx Try.underlying57 ty67 (by rfl) (by rfl) (by omega) (by omega)) ?_
  refine RS.q rfl (QO.fieldAddr fo67_2 (by rfl)) ?_
  refine RS.q rfl (QO.loadOA ty61 (vs := winC ka.win ka.A ka.c) (by rfl) hd0 (by rfl)) ?_
  first | refine RS.storeB ty61 (by rfl) (by rfl) (by rfl) (by rfl) (by rfl) (by repeat (first | exact Upd.head | apply Upd.tail)) (by rfl) ?_ | refine RS.storeP ty61 (by rfl) (by rfl) (by rfl) (by rfl) (by rfl) (by repeat (first | exact Upd.head | apply Upd.tail)) (by rfl) ?_
  refine RS.nil ?_
  refine thenC_n ?_
  refine CS.ret ?_
  refine blockC_r ?_
  refine thenC_r ?_
  refine retQ.mk (H' := []) (.inr rfl) (RVs.cellA ty61 (by rfl) (by repeat (first | exact List.Mem.head _ | refine List.Mem.tail _ ?_)) (by rfl) RVs.nil) (List.nil_sublist _) ?_
  exact ⟨ka.A, ka.c, ret1 (betw_e hc (by omega) hka (.inl rfl)), .inr ⟨l.length - 1, by omega, by rw [hka], by rw [betw_e hc (by omega) hka (.inl rfl), hka]⟩⟩

set_option maxRecDepth 100000 in
theorem bfC (A : Option Addr) (c : Nat) (l : List KF) (frame : Int) (W : World) (hA : KS W A l) (he : frE l = 0) (i : Nat) (hc : cntK frame l = i) (h0 : 0 < i) (h1 : i < l.length) (hf : (l.getD (i - 1) default).frame = frame) : Fn_ Try.prog 27 #[.slice A l.length c, iv frame] W (fun v H => ∃ A2 c2, v = wV (betw l frame) A2 c2 ∧ PtsOf l A2 (betw l frame).pts H) := by
  obtain ⟨hl1, hl2, hall⟩ := frE_ok he
  obtain ⟨bA, oA, e1⟩ := hA.isS (show 0 < l.length by omega)
  subst e1
  obtain ⟨ka, hka⟩ : ∃ q, l.getD (i - 1) default = q := ⟨_, rfl⟩
  rw [hka] at hf
  refine Fn_.intro Try.func27 rfl rfl (by rfl) ?_
  refine CS.seq ?_
  refine CS.region ?_
  refine RS.box rfl (by rfl) (by rfl) ?_
  intro g3
  refine RS.alloc rfl ty61 ?_
  intro g4
  refine RS.nil ?_
  refine thenC_n ?_
  refine CS.seq ?_
  refine CS.region ?_
  refine RS.q rfl (QO.move) ?_
  refine RS.q rfl (QO.makeFunc) ?_
  refine RS.call rfl (by rfl) ok76 (by rfl) (fun w ho => indexK (some ⟨bA, oA, none⟩) c l frame (i : Int) g3 _ (hA.own ho) (by unfold maxLen; omega) (cell1Own (t := 3) ho (by repeat (first | exact List.Mem.head _ | refine List.Mem.tail _ ?_))) (by rw [hc]; exact if_pos h1)) ?_
  rintro _ _ ⟨rfl, rfl⟩
  refine RS.q rfl (QO.assign) ?_
  refine RS.nil ?_
  refine thenC_n ?_
  refine CS.seq ?_
  refine CS.block ?_
  refine CS.seq ?_
  refine CS.region ?_
  refine RS.q rfl (QO.move) ?_
  refine RS.qv rfl (QO.eql (by rfl) (by rfl)) (congrArg Value.bool (show ((i : Int) == 0) = false from beq_eq_false_iff_ne.2 (by omega))) ?_
  refine RS.q rfl (QO.assign) ?_
  refine RS.nil ?_
  refine thenC_n ?_
  refine CS.condF (by rfl) rfl ?_
  refine CS.seq ?_
  refine CS.region ?_
  refine RS.q rfl (QO.move) ?_
  refine RS.qv rfl (QO.lss (by rfl) (by rfl)) (congrArg Value.bool (show decide ((i : Int) < 0) = false from decide_eq_false (by omega))) ?_
  refine RS.q rfl (QO.assign) ?_
  refine RS.nil ?_
  refine thenC_n ?_
  refine CS.condF (by rfl) rfl ?_
  refine CS.seq ?_
  refine CS.draw 9 rfl (by kernel_rfl) (by kernel_rfl) ?_
  refine RT.take (i := 0) rfl (by kernel_rfl) rfl (QO.move) ?_
  refine RT.take (i := 1) rfl (by kernel_rfl) rfl (QO.move) ?_
  first | (refine RT.take (i := 2) rfl (by kernel_rfl) rfl (QO.sub (by rfl) (by rfl) (by omega) (by omega)) ?_) | (refine RT.take (i := 2) rfl (by kernel_rfl) rfl (QO.ibin (by rfl) (by rfl) trivial) ?_)
  have hqa := hA.frame (i := i - 1) (show i - 1 < l.length by omega) (q := oA + ((i : Int) - 1).toNat * 10 + 0) (by omega)
  rw [hka] at hqa
  refine RT.take (i := 3) rfl (by kernel_rfl) rfl (QO.idx Try.underlying57 ty67 (by rfl) (by rfl) (by omega) (by omega)) ?_
  refine RT.take (i := 4) rfl (by kernel_rfl) rfl (QO.fieldAddr fo67_0 (by rfl)) ?_
  refine RT.take (i := 5) rfl (by kernel_rfl) rfl (QO.loadO ty3 (by rfl) hqa) ?_
  first | (refine RT.take (i := 6) rfl (by kernel_rfl) rfl (QO.load ty3 (by rfl) (by repeat (first | exact List.Mem.head _ | refine List.Mem.tail _ ?_)) (by rfl)) ?_) | (refine RT.take (i := 6) rfl (by kernel_rfl) rfl (QO.loadO ty3 (by rfl) (by assumption)) ?_) | (refine RT.take (i := 6) rfl (by kernel_rfl) rfl (QO.load ty3 (by rfl) (by repeat (first | exact List.Mem.head _ | refine List.Mem.tail _ ?_)) (by assumption)) ?_)
  refine RT.takev (i := 7) rfl (by kernel_rfl) rfl (QO.eql (by rfl) (by rfl)) (congrArg Value.bool (show (ka.frame == frame) = true from beq_iff_eq.2 hf)) ?_
  refine RT.take (i := 8) rfl (by kernel_rfl) rfl (QO.assign) ?_
  refine RT.done (by kernel_rfl) ?_
  refine thenC_n ?_
  refine CS.condT (by rfl) rfl ?_
  refine CS.seq ?_
  refine CS.region ?_
  refine RS.q rfl (QO.move) ?_
  refine RS.q rfl (QO.move) ?_
  first | (refine RS.q rfl (QO.sub (by rfl) (by rfl) (by omega) (by omega)) ?_) | (refine RS.q rfl (QO.ibin (by rfl) (by rfl) trivial) ?_)
  have hd0 := hA.win (i := i - 1) (show i - 1 < l.length by omega) (q := oA + ((i : Int) - 1).toNat * 10 + 2) (by omega)
  rw [hka] at hd0
  refine RS.q rfl (QO.idx Try.underlying57 ty67 (by rfl) (by rfl) (by omega) (by omega)) ?_
  refine RS.q rfl (QO.fieldAddr fo67_2 (by rfl)) ?_
  refine RS.q rfl (QO.loadOA ty61 (vs := winC ka.win ka.A ka.c) (by rfl) hd0 (by rfl)) ?_
  first | refine RS.storeB ty61 (by rfl) (by rfl) (by rfl) (by rfl) (by rfl) (by repeat (first | exact Upd.head | apply Upd.tail)) (by rfl) ?_ | refine RS.storeP ty61 (by rfl) (by rfl) (by rfl) (by rfl) (by rfl) (by repeat (first | exact Upd.head | apply Upd.tail)) (by rfl) ?_
  refine RS.nil ?_
  refine thenC_n ?_
  refine CS.ret ?_
  refine blockC_r ?_
  refine thenC_r ?_
  refine retQ.mk (H' := []) (.inr rfl) (RVs.cellA ty61 (by rfl) (by repeat (first | exact List.Mem.head _ | refine List.Mem.tail _ ?_)) (by rfl) RVs.nil) (List.nil_sublist _) ?_
  exact ⟨ka.A, ka.c, ret1 (betw_e hc (by omega) hka (.inr hf)), .inr ⟨i - 1, by omega, by rw [hka], by rw [betw_e hc (by omega) hka (.inr hf), hka]⟩⟩

set_option maxHeartbeats 4000000 in
set_option maxRecDepth 100000 in
theorem bfD (A : Option Addr) (c : Nat) (l : List KF) (frame : Int) (W : World) (hA : KS W A l) (he : frE l = 0) (i : Nat) (hc : cntK frame l = i) (h0 : 0 < i) (h1 : i < l.length) (hf : ¬ (l.getD (i - 1) default).frame = frame) : Fn_ Try.prog 27 #[.slice A l.length c, iv frame] W (fun v H => ∃ A2 c2, v = wV (betw l frame) A2 c2 ∧ PtsOf l A2 (betw l frame).pts H) := by
  obtain ⟨hl1, hl2, hall⟩ := frE_ok he
  obtain ⟨bA, oA, e1⟩ := hA.isS (show 0 < l.length by omega)
  subst e1
  obtain ⟨ka, hka⟩ : ∃ q, l.getD (i - 1) default = q := ⟨_, rfl⟩
  have hoka := hA.ok (i := i - 1) (show i - 1 < l.length by omega)
  rw [hka] at hoka
  have hfea := frE1_ok (hall (i - 1) (by omega)) hka
  have hpla := (winE_pts hfea.2.2.2.2.1).1
  obtain ⟨kb, hkb⟩ : ∃ q, l.getD (i) default = q := ⟨_, rfl⟩
  have hokb := hA.ok (i := i) (show i < l.length by omega)
  rw [hkb] at hokb
  have hfeb := frE1_ok (hall (i) (by omega)) hkb
  have hplb := (winE_pts hfeb.2.2.2.2.1).1
  have hda := hA.whole (i := i - 1) (show i - 1 < l.length by omega) (q := oA + ((i : Int) - 1).toNat * 10) (by omega)
  rw [hka] at hda
  have hdb := hA.whole (i := i) (show i < l.length by omega) (q := oA + (i : Int).toNat * 10) (by omega)
  rw [hkb] at hdb
  have hfa := cntK_lt frame l (i - 1) (by omega)
  rw [hka] at hfa hf
  have hfb := cntK_gt frame l (by omega)
  rw [hc, hkb] at hfb
  refine Fn_.intro Try.func27 rfl rfl (by rfl) ?_
  refine CS.seq ?_
  refine CS.region ?_
  refine RS.box rfl (by rfl) (by rfl) ?_
  intro g3
  refine RS.alloc rfl ty61 ?_
  intro g4
  refine RS.nil ?_
  refine thenC_n ?_
  refine CS.seq ?_
  refine CS.region ?_
  refine RS.q rfl (QO.move) ?_
  refine RS.q rfl (QO.makeFunc) ?_
  refine RS.call rfl (by rfl) ok76 (by rfl) (fun w ho => indexK (some ⟨bA, oA, none⟩) c l frame (i : Int) g3 _ (hA.own ho) (by unfold maxLen; omega) (cell1Own (t := 3) ho (by repeat (first | exact List.Mem.head _ | refine List.Mem.tail _ ?_))) (by rw [hc]; exact if_pos h1)) ?_
  rintro _ _ ⟨rfl, rfl⟩
  refine RS.q rfl (QO.assign) ?_
  refine RS.nil ?_
  refine thenC_n ?_
  refine CS.seq ?_
  refine CS.block ?_
  refine CS.seq ?_
  refine CS.region ?_
  refine RS.q rfl (QO.move) ?_
  refine RS.qv rfl (QO.eql (by rfl) (by rfl)) (congrArg Value.bool (show ((i : Int) == 0) = false from beq_eq_false_iff_ne.2 (by omega))) ?_
  refine RS.q rfl (QO.assign) ?_
  refine RS.nil ?_
  refine thenC_n ?_
  refine CS.condF (by rfl) rfl ?_
  refine CS.seq ?_
  refine CS.region ?_
  refine RS.q rfl (QO.move) ?_
  refine RS.qv rfl (QO.lss (by rfl) (by rfl)) (congrArg Value.bool (show decide ((i : Int) < 0) = false from decide_eq_false (by omega))) ?_
  refine RS.q rfl (QO.assign) ?_
  refine RS.nil ?_
  refine thenC_n ?_
  refine CS.condF (by rfl) rfl ?_
  refine CS.seq ?_
  refine CS.draw 9 rfl (by kernel_rfl) (by kernel_rfl) ?_
  refine RT.take (i := 0) rfl (by kernel_rfl) rfl (QO.move) ?_
  refine RT.take (i := 1) rfl (by kernel_rfl) rfl (QO.move) ?_
  first | (refine RT.take (i := 2) rfl (by kernel_rfl) rfl (QO.sub (by rfl) (by rfl) (by omega) (by omega)) ?_) | (refine RT.take (i := 2) rfl (by kernel_rfl) rfl (QO.ibin (by rfl) (by rfl) trivial) ?_)
  have hqa := hA.frame (i := i - 1) (show i - 1 < l.length by omega) (q := oA + ((i : Int) - 1).toNat * 10 + 0) (by omega)
  rw [hka] at hqa
  refine RT.take (i := 3) rfl (by kernel_rfl) rfl (QO.idx Try.underlying57 ty67 (by rfl) (by rfl) (by omega) (by omega)) ?_
  refine RT.take (i := 4) rfl (by kernel_rfl) rfl (QO.fieldAddr fo67_0 (by rfl)) ?_
  refine RT.take (i := 5) rfl (by kernel_rfl) rfl (QO.loadO ty3 (by rfl) hqa) ?_
  first | (refine RT.take (i := 6) rfl (by kernel_rfl) rfl (QO.load ty3 (by rfl) (by repeat (first | exact List.Mem.head _ | refine List.Mem.tail _ ?_)) (by rfl)) ?_) | (refine RT.take (i := 6) rfl (by kernel_rfl) rfl (QO.loadO ty3 (by rfl) (by assumption)) ?_) | (refine RT.take (i := 6) rfl (by kernel_rfl) rfl (QO.load ty3 (by rfl) (by repeat (first | exact List.Mem.head _ | refine List.Mem.tail _ ?_)) (by assumption)) ?_)
  refine RT.takev (i := 7) rfl (by kernel_rfl) rfl (QO.eql (by rfl) (by rfl)) (congrArg Value.bool (show (ka.frame == frame) = false from beq_eq_false_iff_ne.2 hf)) ?_
  refine RT.take (i := 8) rfl (by kernel_rfl) rfl (QO.assign) ?_
  refine RT.done (by kernel_rfl) ?_
  refine thenC_n ?_
  refine CS.condF (by rfl) rfl ?_
  refine CS.skip ?_
  refine blockC_n ?_
  refine thenC_n ?_
  refine CS.cut (X := Nat × Nat) [6, 7, 53, 54, 55, 56, 57, 58, 59, 60, 61] (fun z => [(6, .pointer (some ⟨z.1, 0, none⟩)), (7, .pointer (some ⟨z.2, 0, none⟩))]) (fun z => [⟨z.2, 67, kfC kb⟩, ⟨z.1, 67, kfC ka⟩, ⟨g4, 61, [iv 0, flt 0, flt 0, flt 0, flt 0, flt 0, .slice none 0 0, .bool false]⟩, ⟨g3, 3, [iv frame]⟩]) (fun z => True) ?_ ?_
  · refine CS.drawS (HS := [⟨g4, 61, [iv 0, flt 0, flt 0, flt 0, flt 0, flt 0, .slice none 0 0, .bool false]⟩, ⟨g3, 3, [iv frame]⟩]) 12 (by repeat (first | exact List.Sublist.refl _ | exact List.nil_sublist _ | refine List.Sublist.cons_cons _ ?_ | refine List.Sublist.cons _ ?_ | exact Sbp.refl | exact Sbp.nil | refine Sbp.cons (by repeat (first | exact Rem.head | apply Rem.tail)) ?_ | exact Sbp.app | refine Sbp.skip ?_)) rfl (by kernel_rfl) (by kernel_rfl) ?_
    refine RT.take (i := 0) rfl (by kernel_rfl) rfl (QO.move) ?_
    refine RT.take (i := 1) rfl (by kernel_rfl) rfl (QO.move) ?_
    first | (refine RT.take (i := 2) rfl (by kernel_rfl) rfl (QO.sub (by rfl) (by rfl) (by omega) (by omega)) ?_) | (refine RT.take (i := 2) rfl (by kernel_rfl) rfl (QO.ibin (by rfl) (by rfl) trivial) ?_)
    refine RT.take (i := 3) rfl (by kernel_rfl) rfl (QO.idx Try.underlying57 ty67 (by rfl) (by rfl) (by omega) (by omega)) ?_
    refine RT.take (i := 4) rfl (by kernel_rfl) rfl (QO.loadOA ty67 (vs := kfC ka) (by rfl) hda (by rfl)) ?_
    refine RT.take (i := 5) rfl (by kernel_rfl) rfl (QO.move) ?_
    refine RT.take (i := 6) rfl (by kernel_rfl) rfl (QO.move) ?_
    refine RT.take (i := 7) rfl (by kernel_rfl) rfl (QO.idx Try.underlying57 ty67 (by rfl) (by rfl) (by omega) (by omega)) ?_
    refine RT.take (i := 8) rfl (by kernel_rfl) rfl (QO.loadOA ty67 (vs := kfC kb) (by rfl) hdb (by rfl)) ?_
    refine RT.two (i := 9) (j := 10) (by kernel_rfl) rfl rfl ?_ ?_
    · refine RS.alloc rfl ty67 ?_
      intro g6
      refine RS.nil ⟨(by repeat (first | exact List.Sublist.refl _ | exact List.nil_sublist _ | refine List.Sublist.cons_cons _ ?_ | refine List.Sublist.cons _ ?_ | exact Sbp.refl | exact Sbp.nil | refine Sbp.cons (by repeat (first | exact Rem.head | apply Rem.tail)) ?_ | exact Sbp.app | refine Sbp.skip ?_)), ?_⟩
      refine RT.one (i := 10) (by kernel_rfl) rfl rfl ?_
      refine RS.alloc rfl ty67 ?_
      intro g7
      refine RS.nil ⟨(by repeat (first | exact List.Sublist.refl _ | exact List.nil_sublist _ | refine List.Sublist.cons_cons _ ?_ | refine List.Sublist.cons _ ?_ | exact Sbp.refl | exact Sbp.nil | refine Sbp.cons (by repeat (first | exact Rem.head | apply Rem.tail)) ?_ | exact Sbp.app | refine Sbp.skip ?_)), ?_⟩
      refine RT.one (i := 11) (by kernel_rfl) rfl rfl ?_
      first | refine RS.storeB ty67 (by rfl) (by rfl) (by rfl) (by rfl) (by rfl) (by repeat (first | exact Upd.head | apply Upd.tail)) (by rfl) ?_ | refine RS.storeP ty67 (by rfl) (by rfl) (by rfl) (by rfl) (by rfl) (by repeat (first | exact Upd.head | apply Upd.tail)) (by rfl) ?_
      refine RS.nil ⟨(by repeat (first | exact List.Sublist.refl _ | exact List.nil_sublist _ | refine List.Sublist.cons_cons _ ?_ | refine List.Sublist.cons _ ?_ | exact Sbp.refl | exact Sbp.nil | refine Sbp.cons (by repeat (first | exact Rem.head | apply Rem.tail)) ?_ | exact Sbp.app | refine Sbp.skip ?_)), ?_⟩
      refine RT.tail (i := 12) (by kernel_rfl) rfl rfl ?_
      first | refine RS.storeB ty67 (by rfl) (by rfl) (by rfl) (by rfl) (by rfl) (by repeat (first | exact Upd.head | apply Upd.tail)) (by rfl) ?_ | refine RS.storeP ty67 (by rfl) (by rfl) (by rfl) (by rfl) (by rfl) (by repeat (first | exact Upd.head | apply Upd.tail)) (by rfl) ?_
      refine RS.nil ?_
      refine RT.done (by kernel_rfl) ?_
      refine cutQ_n (by intro t ht; repeat (first | with_reducible exact rfl | exact frame_puts ht (frame_mix ht) _ rfl | (refine frame_put rfl ht ?_) | (refine frame_puts ht ?_ _ rfl) | exact frame_mix ht | (refine frame_mix2 rfl ht ?_) | exact rfl)) ?_
      exact ⟨(g6, g7), trivial, (by repeat (first | exact kn_nil | refine kn_cons (by rfl) ?_)), (by repeat (first | exact List.Sublist.refl _ | exact List.nil_sublist _ | refine List.Sublist.cons_cons _ ?_ | refine List.Sublist.cons _ ?_ | exact Sbp.refl | exact Sbp.nil | refine Sbp.cons (by repeat (first | exact Rem.head | apply Rem.tail)) ?_ | exact Sbp.app | refine Sbp.skip ?_))⟩
    · refine RS.alloc rfl ty67 ?_
      intro g7
      refine RS.nil ⟨(by repeat (first | exact List.Sublist.refl _ | exact List.nil_sublist _ | refine List.Sublist.cons_cons _ ?_ | refine List.Sublist.cons _ ?_ | exact Sbp.refl | exact Sbp.nil | refine Sbp.cons (by repeat (first | exact Rem.head | apply Rem.tail)) ?_ | exact Sbp.app | refine Sbp.skip ?_)), ?_⟩
      refine RT.one (i := 9) (by kernel_rfl) rfl rfl ?_
      refine RS.alloc rfl ty67 ?_
      intro g6
      refine RS.nil ⟨(by repeat (first | exact List.Sublist.refl _ | exact List.nil_sublist _ | refine List.Sublist.cons_cons _ ?_ | refine List.Sublist.cons _ ?_ | exact Sbp.refl | exact Sbp.nil | refine Sbp.cons (by repeat (first | exact Rem.head | apply Rem.tail)) ?_ | exact Sbp.app | refine Sbp.skip ?_)), ?_⟩
      refine RT.one (i := 11) (by kernel_rfl) rfl rfl ?_
      first | refine RS.storeB ty67 (by rfl) (by rfl) (by rfl) (by rfl) (by rfl) (by repeat (first | exact Upd.head | apply Upd.tail)) (by rfl) ?_ | refine RS.storeP ty67 (by rfl) (by rfl) (by rfl) (by rfl) (by rfl) (by repeat (first | exact Upd.head | apply Upd.tail)) (by rfl) ?_
      refine RS.nil ⟨(by repeat (first | exact List.Sublist.refl _ | exact List.nil_sublist _ | refine List.Sublist.cons_cons _ ?_ | refine List.Sublist.cons _ ?_ | exact Sbp.refl | exact Sbp.nil | refine Sbp.cons (by repeat (first | exact Rem.head | apply Rem.tail)) ?_ | exact Sbp.app | refine Sbp.skip ?_)), ?_⟩
      refine RT.tail (i := 12) (by kernel_rfl) rfl rfl ?_
      first | refine RS.storeB ty67 (by rfl) (by rfl) (by rfl) (by rfl) (by rfl) (by repeat (first | exact Upd.head | apply Upd.tail)) (by rfl) ?_ | refine RS.storeP ty67 (by rfl) (by rfl) (by rfl) (by rfl) (by rfl) (by repeat (first | exact Upd.head | apply Upd.tail)) (by rfl) ?_
      refine RS.nil ?_
      refine RT.done (by kernel_rfl) ?_
      refine cutQ_n (by intro t ht; repeat (first | with_reducible exact rfl | exact frame_puts ht (frame_mix ht) _ rfl | (refine frame_put rfl ht ?_) | (refine frame_puts ht ?_ _ rfl) | exact frame_mix ht | (refine frame_mix2 rfl ht ?_) | exact rfl)) ?_
      exact ⟨(g6, g7), trivial, (by repeat (first | exact kn_nil | refine kn_cons (by rfl) ?_)), (by repeat (first | exact List.Sublist.refl _ | exact List.nil_sublist _ | refine List.Sublist.cons_cons _ ?_ | refine List.Sublist.cons _ ?_ | exact Sbp.refl | exact Sbp.nil | refine Sbp.cons (by repeat (first | exact Rem.head | apply Rem.tail)) ?_ | exact Sbp.app | refine Sbp.skip ?_))⟩
  · intro z gj hz
    obtain ⟨g6, g7⟩ := z
    show CS _ _ _ _ _ (puts (mix _ _ _) [(6, .pointer (some ⟨g6, 0, none⟩)), (7, .pointer (some ⟨g7, 0, none⟩))]) ([⟨g7, 67, kfC kb⟩, ⟨g6, 67, kfC ka⟩, ⟨g4, 61, [iv 0, flt 0, flt 0, flt 0, flt 0, flt 0, .slice none 0 0, .bool false]⟩, ⟨g3, 3, [iv frame]⟩])
    refine CS.cut (X := Nat) (8 :: 62 :: 63 :: 64 :: 65 :: 66 :: 67 :: 68 :: 69 :: 70 :: 71 :: 72 :: 73 :: []) (fun g8 => [(8, .pointer (some ⟨g8, 0, none⟩))]) (fun g8 => [⟨g8, 29, [flt (tV0 (frame - ka.frame) (kb.frame - ka.frame))]⟩, ⟨g7, 67, kfC kb⟩, ⟨g6, 67, kfC ka⟩, ⟨g4, 61, [iv 0, flt 0, flt 0, flt 0, flt 0, flt 0, .slice none 0 0, .bool false]⟩, ⟨g3, 3, [iv frame]⟩]) (fun g8 => True) ?_ ?_
    · refine CS.draw 13 rfl (by kernel_rfl) (by kernel_rfl) ?_
      first | (refine RT.take (i := 0) rfl (by kernel_rfl) rfl (QO.load ty3 (by rfl) (by repeat (first | exact List.Mem.head _ | refine List.Mem.tail _ ?_)) (by rfl)) ?_) | (refine RT.take (i := 0) rfl (by kernel_rfl) rfl (QO.loadO ty3 (by rfl) (by assumption)) ?_) | (refine RT.take (i := 0) rfl (by kernel_rfl) rfl (QO.load ty3 (by rfl) (by repeat (first | exact List.Mem.head _ | refine List.Mem.tail _ ?_)) (by assumption)) ?_)
      refine RT.take (i := 1) rfl (by kernel_rfl) rfl (QO.fieldAddr fo67_0 (by rfl)) ?_
      first | (refine RT.take (i := 2) rfl (by kernel_rfl) rfl (QO.load ty3 (by rfl) (by repeat (first | exact List.Mem.head _ | refine List.Mem.tail _ ?_)) (by rfl)) ?_) | (refine RT.take (i := 2) rfl (by kernel_rfl) rfl (QO.loadO ty3 (by rfl) (by assumption)) ?_) | (refine RT.take (i := 2) rfl (by kernel_rfl) rfl (QO.load ty3 (by rfl) (by repeat (first | exact List.Mem.head _ | refine List.Mem.tail _ ?_)) (by assumption)) ?_)
      first | (refine RT.take (i := 3) rfl (by kernel_rfl) rfl (QO.sub (by rfl) (by rfl) (by omega) (by omega)) ?_) | (refine RT.take (i := 3) rfl (by kernel_rfl) rfl (QO.ibin (by rfl) (by rfl) trivial) ?_)
      refine RT.take (i := 5) rfl (by kernel_rfl) rfl (QO.fieldAddr fo67_0 (by rfl)) ?_
      first | (refine RT.take (i := 6) rfl (by kernel_rfl) rfl (QO.load ty3 (by rfl) (by repeat (first | exact List.Mem.head _ | refine List.Mem.tail _ ?_)) (by rfl)) ?_) | (refine RT.take (i := 6) rfl (by kernel_rfl) rfl (QO.loadO ty3 (by rfl) (by assumption)) ?_) | (refine RT.take (i := 6) rfl (by kernel_rfl) rfl (QO.load ty3 (by rfl) (by repeat (first | exact List.Mem.head _ | refine List.Mem.tail _ ?_)) (by assumption)) ?_)
      refine RT.take (i := 7) rfl (by kernel_rfl) rfl (QO.fieldAddr fo67_0 (by rfl)) ?_
      first | (refine RT.take (i := 8) rfl (by kernel_rfl) rfl (QO.load ty3 (by rfl) (by repeat (first | exact List.Mem.head _ | refine List.Mem.tail _ ?_)) (by rfl)) ?_) | (refine RT.take (i := 8) rfl (by kernel_rfl) rfl (QO.loadO ty3 (by rfl) (by assumption)) ?_) | (refine RT.take (i := 8) rfl (by kernel_rfl) rfl (QO.load ty3 (by rfl) (by repeat (first | exact List.Mem.head _ | refine List.Mem.tail _ ?_)) (by assumption)) ?_)
      first | (refine RT.take (i := 9) rfl (by kernel_rfl) rfl (QO.sub (by rfl) (by rfl) (by omega) (by omega)) ?_) | (refine RT.take (i := 9) rfl (by kernel_rfl) rfl (QO.ibin (by rfl) (by rfl) trivial) ?_)
      refine RT.two (i := 4) (j := 12) (by kernel_rfl) rfl rfl ?_ ?_
      · refine RS.call rfl (by rfl) ok79 (by rfl) (fun w ho => rconvW _ _) ?_
        rintro _ _ ⟨rfl, rfl⟩
        refine RS.nil ⟨(by repeat (first | exact List.Sublist.refl _ | exact List.nil_sublist _ | refine List.Sublist.cons_cons _ ?_ | refine List.Sublist.cons _ ?_ | exact Sbp.refl | exact Sbp.nil | refine Sbp.cons (by repeat (first | exact Rem.head | apply Rem.tail)) ?_ | exact Sbp.app | refine Sbp.skip ?_)), ?_⟩
        refine RT.two (i := 10) (j := 12) (by kernel_rfl) rfl rfl ?_ ?_
        · refine RS.call rfl (by rfl) ok79 (by rfl) (fun w ho => rconvW _ _) ?_
          rintro _ _ ⟨rfl, rfl⟩
          refine RS.nil ⟨(by repeat (first | exact List.Sublist.refl _ | exact List.nil_sublist _ | refine List.Sublist.cons_cons _ ?_ | refine List.Sublist.cons _ ?_ | exact Sbp.refl | exact Sbp.nil | refine Sbp.cons (by repeat (first | exact Rem.head | apply Rem.tail)) ?_ | exact Sbp.app | refine Sbp.skip ?_)), ?_⟩
          refine RT.two (i := 11) (j := 12) (by kernel_rfl) rfl rfl ?_ ?_
          · refine RS.call rfl (by rfl) ok78 (by rfl) (fun w ho => rdivK (frame - ka.frame) (kb.frame - ka.frame) _ (by omega) (by omega) (by omega)) ?_
            rintro _ _ ⟨rfl, rfl⟩
            refine RS.nil ⟨(by repeat (first | exact List.Sublist.refl _ | exact List.nil_sublist _ | refine List.Sublist.cons_cons _ ?_ | refine List.Sublist.cons _ ?_ | exact Sbp.refl | exact Sbp.nil | refine Sbp.cons (by repeat (first | exact Rem.head | apply Rem.tail)) ?_ | exact Sbp.app | refine Sbp.skip ?_)), ?_⟩
            refine RT.one (i := 12) (by kernel_rfl) rfl rfl ?_
            refine RS.alloc rfl ty29 ?_
            intro g8
            refine RS.nil ⟨(by repeat (first | exact List.Sublist.refl _ | exact List.nil_sublist _ | refine List.Sublist.cons_cons _ ?_ | refine List.Sublist.cons _ ?_ | exact Sbp.refl | exact Sbp.nil | refine Sbp.cons (by repeat (first | exact Rem.head | apply Rem.tail)) ?_ | exact Sbp.app | refine Sbp.skip ?_)), ?_⟩
            refine RT.tail (i := 13) (by kernel_rfl) rfl rfl ?_
            refine RS.store1 ty29 rfl (by rfl) (by rfl) (by rfl) (by repeat (first | exact Upd.head | apply Upd.tail)) (by first | (simp; done) | (simp; omega) | omega) ?_
            refine RS.nil ?_
            refine RT.done (by kernel_rfl) ?_
            refine cutQ_n (by intro t ht; repeat (first | with_reducible exact rfl | exact frame_puts ht (frame_mix ht) _ rfl | (refine frame_put rfl ht ?_) | (refine frame_puts ht ?_ _ rfl) | exact frame_mix ht | (refine frame_mix2 rfl ht ?_) | exact rfl)) ?_
            exact ⟨g8, trivial, (by repeat (first | exact kn_nil | refine kn_cons (by rfl) ?_)), (by repeat (first | exact List.Sublist.refl _ | exact List.nil_sublist _ | refine List.Sublist.cons_cons _ ?_ | refine List.Sublist.cons _ ?_ | exact Sbp.refl | exact Sbp.nil | refine Sbp.cons (by repeat (first | exact Rem.head | apply Rem.tail)) ?_ | exact Sbp.app | refine Sbp.skip ?_))⟩
          · refine RS.alloc rfl ty29 ?_
            intro g8
            refine RS.nil ⟨(by repeat (first | exact List.Sublist.refl _ | exact List.nil_sublist _ | refine List.Sublist.cons_cons _ ?_ | refine List.Sublist.cons _ ?_ | exact Sbp.refl | exact Sbp.nil | refine Sbp.cons (by repeat (first | exact Rem.head | apply Rem.tail)) ?_ | exact Sbp.app | refine Sbp.skip ?_)), ?_⟩
            refine RT.one (i := 11) (by kernel_rfl) rfl rfl ?_
            refine RS.call rfl (by rfl) ok78 (by rfl) (fun w ho => rdivK (frame - ka.frame) (kb.frame - ka.frame) _ (by omega) (by omega) (by omega)) ?_
            rintro _ _ ⟨rfl, rfl⟩
            refine RS.nil ⟨(by repeat (first | exact List.Sublist.refl _ | exact List.nil_sublist _ | refine List.Sublist.cons_cons _ ?_ | refine List.Sublist.cons _ ?_ | exact Sbp.refl | exact Sbp.nil | refine Sbp.cons (by repeat (first | exact Rem.head | apply Rem.tail)) ?_ | exact Sbp.app | refine Sbp.skip ?_)), ?_⟩
            refine RT.tail (i := 13) (by kernel_rfl) rfl rfl ?_
            refine RS.store1 ty29 rfl (by rfl) (by rfl) (by rfl) (by repeat (first | exact Upd.head | apply Upd.tail)) (by first | (simp; done) | (simp; omega) | omega) ?_
            refine RS.nil ?_
            refine RT.done (by kernel_rfl) ?_
            refine cutQ_n (by intro t ht; repeat (first | with_reducible exact rfl | exact frame_puts ht (frame_mix ht) _ rfl | (refine frame_put rfl ht ?_) | (refine frame_puts ht ?_ _ rfl) | exact frame_mix ht | (refine frame_mix2 rfl ht ?_) | exact rfl)) ?_
            exact ⟨g8, trivial, (by repeat (first | exact kn_nil | refine kn_cons (by rfl) ?_)), (by repeat (first | exact List.Sublist.refl _ | exact List.nil_sublist _ | refine List.Sublist.cons_cons _ ?_ | refine List.Sublist.cons _ ?_ | exact Sbp.refl | exact Sbp.nil | refine Sbp.cons (by repeat (first | exact Rem.head | apply Rem.tail)) ?_ | exact Sbp.app | refine Sbp.skip ?_))⟩
        · refine RS.alloc rfl ty29 ?_
          intro g8
          refine RS.nil ⟨(by repeat (first | exact List.Sublist.refl _ | exact List.nil_sublist _ | refine List.Sublist.cons_cons _ ?_ | refine List.Sublist.cons _ ?_ | exact Sbp.refl | exact Sbp.nil | refine Sbp.cons (by repeat (first | exact Rem.head | apply Rem.tail)) ?_ | exact Sbp.app | refine Sbp.skip ?_)), ?_⟩
          refine RT.one (i := 10) (by kernel_rfl) rfl rfl ?_
          refine RS.call rfl (by rfl) ok79 (by rfl) (fun w ho => rconvW _ _) ?_
          rintro _ _ ⟨rfl, rfl⟩
          refine RS.nil ⟨(by repeat (first | exact List.Sublist.refl _ | exact List.nil_sublist _ | refine List.Sublist.cons_cons _ ?_ | refine List.Sublist.cons _ ?_ | exact Sbp.refl | exact Sbp.nil | refine Sbp.cons (by repeat (first | exact Rem.head | apply Rem.tail)) ?_ | exact Sbp.app | refine Sbp.skip ?_)), ?_⟩
          refine RT.one (i := 11) (by kernel_rfl) rfl rfl ?_
          refine RS.call rfl (by rfl) ok78 (by rfl) (fun w ho => rdivK (frame - ka.frame) (kb.frame - ka.frame) _ (by omega) (by omega) (by omega)) ?_
          rintro _ _ ⟨rfl, rfl⟩
          refine RS.nil ⟨(by repeat (first | exact List.Sublist.refl _ | exact List.nil_sublist _ | refine List.Sublist.cons_cons _ ?_ | refine List.Sublist.cons _ ?_ | exact Sbp.refl | exact Sbp.nil | refine Sbp.cons (by repeat (first | exact Rem.head | apply Rem.tail)) ?_ | exact Sbp.app | refine Sbp.skip ?_)), ?_⟩
          refine RT.tail (i := 13) (by kernel_rfl) rfl rfl ?_
          refine RS.store1 ty29 rfl (by rfl) (by rfl) (by rfl) (by repeat (first | exact Upd.head | apply Upd.tail)) (by first | (simp; done) | (simp; omega) | omega) ?_
          refine RS.nil ?_
          refine RT.done (by kernel_rfl) ?_
          refine cutQ_n (by intro t ht; repeat (first | with_reducible exact rfl | exact frame_puts ht (frame_mix ht) _ rfl | (refine frame_put rfl ht ?_) | (refine frame_puts ht ?_ _ rfl) | exact frame_mix ht | (refine frame_mix2 rfl ht ?_) | exact rfl)) ?_
          exact ⟨g8, trivial, (by repeat (first | exact kn_nil | refine kn_cons (by rfl) ?_)), (by repeat (first | exact List.Sublist.refl _ | exact List.nil_sublist _ | refine List.Sublist.cons_cons _ ?_ | refine List.Sublist.cons _ ?_ | exact Sbp.refl | exact Sbp.nil | refine Sbp.cons (by repeat (first | exact Rem.head | apply Rem.tail)) ?_ | exact Sbp.app | refine Sbp.skip ?_))⟩
      · refine RS.alloc rfl ty29 ?_
        intro g8
        refine RS.nil ⟨(by repeat (first | exact List.Sublist.refl _ | exact List.nil_sublist _ | refine List.Sublist.cons_cons _ ?_ | refine List.Sublist.cons _ ?_ | exact Sbp.refl | exact Sbp.nil | refine Sbp.cons (by repeat (first | exact Rem.head | apply Rem.tail)) ?_ | exact Sbp.app | refine Sbp.skip ?_)), ?_⟩
        refine RT.one (i := 4) (by kernel_rfl) rfl rfl ?_
        refine RS.call rfl (by rfl) ok79 (by rfl) (fun w ho => rconvW _ _) ?_
        rintro _ _ ⟨rfl, rfl⟩
        refine RS.nil ⟨(by repeat (first | exact List.Sublist.refl _ | exact List.nil_sublist _ | refine List.Sublist.cons_cons _ ?_ | refine List.Sublist.cons _ ?_ | exact Sbp.refl | exact Sbp.nil | refine Sbp.cons (by repeat (first | exact Rem.head | apply Rem.tail)) ?_ | exact Sbp.app | refine Sbp.skip ?_)), ?_⟩
        refine RT.one (i := 10) (by kernel_rfl) rfl rfl ?_
        refine RS.call rfl (by rfl) ok79 (by rfl) (fun w ho => rconvW _ _) ?_
        rintro _ _ ⟨rfl, rfl⟩
        refine RS.nil ⟨(by repeat (first | exact List.Sublist.refl _ | exact List.nil_sublist _ | refine List.Sublist.cons_cons _ ?_ | refine List.Sublist.cons _ ?_ | exact Sbp.refl | exact Sbp.nil | refine Sbp.cons (by repeat (first | exact Rem.head | apply Rem.tail)) ?_ | exact Sbp.app | refine Sbp.skip ?_)), ?_⟩
        refine RT.one (i := 11) (by kernel_rfl) rfl rfl ?_
        refine RS.call rfl (by rfl) ok78 (by rfl) (fun w ho => rdivK (frame - ka.frame) (kb.frame - ka.frame) _ (by omega) (by omega) (by omega)) ?_
        rintro _ _ ⟨rfl, rfl⟩
        refine RS.nil ⟨(by repeat (first | exact List.Sublist.refl _ | exact List.nil_sublist _ | refine List.Sublist.cons_cons _ ?_ | refine List.Sublist.cons _ ?_ | exact Sbp.refl | exact Sbp.nil | refine Sbp.cons (by repeat (first | exact Rem.head | apply Rem.tail)) ?_ | exact Sbp.app | refine Sbp.skip ?_)), ?_⟩
        refine RT.tail (i := 13) (by kernel_rfl) rfl rfl ?_
        refine RS.store1 ty29 rfl (by rfl) (by rfl) (by rfl) (by repeat (first | exact Upd.head | apply Upd.tail)) (by first | (simp; done) | (simp; omega) | omega) ?_
        refine RS.nil ?_
        refine RT.done (by kernel_rfl) ?_
        refine cutQ_n (by intro t ht; repeat (first | with_reducible exact rfl | exact frame_puts ht (frame_mix ht) _ rfl | (refine frame_put rfl ht ?_) | (refine frame_puts ht ?_ _ rfl) | exact frame_mix ht | (refine frame_mix2 rfl ht ?_) | exact rfl)) ?_
        exact ⟨g8, trivial, (by repeat (first | exact kn_nil | refine kn_cons (by rfl) ?_)), (by repeat (first | exact List.Sublist.refl _ | exact List.nil_sublist _ | refine List.Sublist.cons_cons _ ?_ | refine List.Sublist.cons _ ?_ | exact Sbp.refl | exact Sbp.nil | refine Sbp.cons (by repeat (first | exact Rem.head | apply Rem.tail)) ?_ | exact Sbp.app | refine Sbp.skip ?_))⟩
    · intro g8 gj hz
      refine CS.cut (X := Nat) [74, 75, 76, 77, 78, 79, 80, 81] (fun tt => []) (fun tt => [⟨g8, 29, [flt tt]⟩, ⟨g7, 67, kfC kb⟩, ⟨g6, 67, kfC ka⟩, ⟨g4, 61, [iv 0, flt 0, flt 0, flt 0, flt 0, flt 0, .slice none 0 0, .bool false]⟩, ⟨g3, 3, [iv frame]⟩]) (fun tt => tt = tV ka kb frame) ?_ ?_
      · refine CS.seq ?_
        refine CS.region ?_
        refine RS.q rfl (QO.fieldAddr fo67_1 (by rfl)) ?_
        first | (refine RS.q rfl (QO.load ty3 (by rfl) (by repeat (first | exact List.Mem.head _ | refine List.Mem.tail _ ?_)) (by rfl)) ?_) | (refine RS.q rfl (QO.loadO ty3 (by rfl) (by assumption)) ?_) | (refine RS.q rfl (QO.load ty3 (by rfl) (by repeat (first | exact List.Mem.head _ | refine List.Mem.tail _ ?_)) (by assumption)) ?_)
        refine RS.nil ?_
        refine thenC_n ?_
        refine CS.block ?_
        refine CS.seq ?_
        refine CS.region ?_
        refine RS.q rfl (QO.eql (by rfl) (by rfl)) ?_
        refine RS.q rfl (QO.assign) ?_
        refine RS.nil ?_
        refine thenC_n ?_
        refine CS.cond (by rfl) (fun hb0 => ?_) (fun hb0 => ?_)
        · have hb0p := eq_of_beq hb0
          refine CS.region ?_
          refine RS.store1 ty29 rfl (by rfl) (by rfl) (by rfl) (by repeat (first | exact Upd.head | apply Upd.tail)) (by first | (simp; done) | (simp; omega) | omega) ?_
          refine RS.nil ?_
          refine blockC_n ?_
          refine cutQ_n (by intro t ht; repeat (first | with_reducible exact rfl | exact frame_puts ht (frame_mix ht) _ rfl | (refine frame_put rfl ht ?_) | (refine frame_puts ht ?_ _ rfl) | exact frame_mix ht | (refine frame_mix2 rfl ht ?_) | exact rfl)) ?_
          first | exact ⟨_, tvc_1 (by omega), (by repeat (first | exact kn_nil | refine kn_cons (by rfl) ?_)), (by repeat (first | exact List.Sublist.refl _ | exact List.nil_sublist _ | refine List.Sublist.cons_cons _ ?_ | refine List.Sublist.cons _ ?_ | exact Sbp.refl | exact Sbp.nil | refine Sbp.cons (by repeat (first | exact Rem.head | apply Rem.tail)) ?_ | exact Sbp.app | refine Sbp.skip ?_))⟩ | exact ⟨_, tvc_3 (by omega) rfl, (by repeat (first | exact kn_nil | refine kn_cons (by rfl) ?_)), (by repeat (first | exact List.Sublist.refl _ | exact List.nil_sublist _ | refine List.Sublist.cons_cons _ ?_ | refine List.Sublist.cons _ ?_ | exact Sbp.refl | exact Sbp.nil | refine Sbp.cons (by repeat (first | exact Rem.head | apply Rem.tail)) ?_ | exact Sbp.app | refine Sbp.skip ?_))⟩ | exact ⟨_, tvc_2 (by omega) (by omega) rfl, (by repeat (first | exact kn_nil | refine kn_cons (by rfl) ?_)), (by repeat (first | exact List.Sublist.refl _ | exact List.nil_sublist _ | refine List.Sublist.cons_cons _ ?_ | refine List.Sublist.cons _ ?_ | exact Sbp.refl | exact Sbp.nil | refine Sbp.cons (by repeat (first | exact Rem.head | apply Rem.tail)) ?_ | exact Sbp.app | refine Sbp.skip ?_))⟩
        · have hb0p := ne_of_beq_false hb0
          refine CS.seq ?_
          refine CS.region ?_
          refine RS.q rfl (QO.eql (by rfl) (by rfl)) ?_
          refine RS.q rfl (QO.assign) ?_
          refine RS.nil ?_
          refine thenC_n ?_
          refine CS.cond (by rfl) (fun hb1 => ?_) (fun hb1 => ?_)
          · have hb1p := eq_of_beq hb1
            refine CS.region ?_
            first | (refine RS.q rfl (QO.load ty29 (by rfl) (by repeat (first | exact List.Mem.head _ | refine List.Mem.tail _ ?_)) (by rfl)) ?_) | (refine RS.q rfl (QO.loadO ty29 (by rfl) (by assumption)) ?_) | (refine RS.q rfl (QO.load ty29 (by rfl) (by repeat (first | exact List.Mem.head _ | refine List.Mem.tail _ ?_)) (by assumption)) ?_)
            refine RS.call rfl (by rfl) ok80 (by rfl) (fun w ho => smoothOf _ _) ?_
            rintro _ _ ⟨rfl, rfl⟩
            refine RS.store1 ty29 rfl (by rfl) (by rfl) (by rfl) (by repeat (first | exact Upd.head | apply Upd.tail)) (by first | (simp; done) | (simp; omega) | omega) ?_
            refine RS.nil ?_
            refine blockC_n ?_
            refine cutQ_n (by intro t ht; repeat (first | with_reducible exact rfl | exact frame_puts ht (frame_mix ht) _ rfl | (refine frame_put rfl ht ?_) | (refine frame_puts ht ?_ _ rfl) | exact frame_mix ht | (refine frame_mix2 rfl ht ?_) | exact rfl)) ?_
            first | exact ⟨_, tvc_1 (by omega), (by repeat (first | exact kn_nil | refine kn_cons (by rfl) ?_)), (by repeat (first | exact List.Sublist.refl _ | exact List.nil_sublist _ | refine List.Sublist.cons_cons _ ?_ | refine List.Sublist.cons _ ?_ | exact Sbp.refl | exact Sbp.nil | refine Sbp.cons (by repeat (first | exact Rem.head | apply Rem.tail)) ?_ | exact Sbp.app | refine Sbp.skip ?_))⟩ | exact ⟨_, tvc_3 (by omega) rfl, (by repeat (first | exact kn_nil | refine kn_cons (by rfl) ?_)), (by repeat (first | exact List.Sublist.refl _ | exact List.nil_sublist _ | refine List.Sublist.cons_cons _ ?_ | refine List.Sublist.cons _ ?_ | exact Sbp.refl | exact Sbp.nil | refine Sbp.cons (by repeat (first | exact Rem.head | apply Rem.tail)) ?_ | exact Sbp.app | refine Sbp.skip ?_))⟩ | exact ⟨_, tvc_2 (by omega) (by omega) rfl, (by repeat (first | exact kn_nil | refine kn_cons (by rfl) ?_)), (by repeat (first | exact List.Sublist.refl _ | exact List.nil_sublist _ | refine List.Sublist.cons_cons _ ?_ | refine List.Sublist.cons _ ?_ | exact Sbp.refl | exact Sbp.nil | refine Sbp.cons (by repeat (first | exact Rem.head | apply Rem.tail)) ?_ | exact Sbp.app | refine Sbp.skip ?_))⟩
          · have hb1p := ne_of_beq_false hb1
            refine CS.skip ?_
            refine blockC_n ?_
            refine cutQ_n (by intro t ht; repeat (first | with_reducible exact rfl | exact frame_puts ht (frame_mix ht) _ rfl | (refine frame_put rfl ht ?_) | (refine frame_puts ht ?_ _ rfl) | exact frame_mix ht | (refine frame_mix2 rfl ht ?_) | exact rfl)) ?_
            first | exact ⟨_, tvc_1 (by omega), (by repeat (first | exact kn_nil | refine kn_cons (by rfl) ?_)), (by repeat (first | exact List.Sublist.refl _ | exact List.nil_sublist _ | refine List.Sublist.cons_cons _ ?_ | refine List.Sublist.cons _ ?_ | exact Sbp.refl | exact Sbp.nil | refine Sbp.cons (by repeat (first | exact Rem.head | apply Rem.tail)) ?_ | exact Sbp.app | refine Sbp.skip ?_))⟩ | exact ⟨_, tvc_3 (by omega) rfl, (by repeat (first | exact kn_nil | refine kn_cons (by rfl) ?_)), (by repeat (first | exact List.Sublist.refl _ | exact List.nil_sublist _ | refine List.Sublist.cons_cons _ ?_ | refine List.Sublist.cons _ ?_ | exact Sbp.refl | exact Sbp.nil | refine Sbp.cons (by repeat (first | exact Rem.head | apply Rem.tail)) ?_ | exact Sbp.app | refine Sbp.skip ?_))⟩ | exact ⟨_, tvc_2 (by omega) (by omega) rfl, (by repeat (first | exact kn_nil | refine kn_cons (by rfl) ?_)), (by repeat (first | exact List.Sublist.refl _ | exact List.nil_sublist _ | refine List.Sublist.cons_cons _ ?_ | refine List.Sublist.cons _ ?_ | exact Sbp.refl | exact Sbp.nil | refine Sbp.cons (by repeat (first | exact Rem.head | apply Rem.tail)) ?_ | exact Sbp.app | refine Sbp.skip ?_))⟩
      · intro tt gj hz
        have htt := hz
        refine CS.seq ?_
        refine CS.region ?_
        refine RS.q rfl (QO.makeFunc) ?_
        refine RS.q rfl (QO.assign) ?_
        refine RS.nil ?_
        refine thenC_n ?_
        refine CS.cut (X := Nat × Nat) [10, 11, 83, 84, 85, 86] (fun z => [(10, .pointer (some ⟨z.1, 0, none⟩)), (11, .pointer (some ⟨z.2, 0, none⟩))]) (fun z => [⟨z.2, 61, winC kb.win kb.A kb.c⟩, ⟨z.1, 61, winC ka.win ka.A ka.c⟩, ⟨g8, 29, [flt tt]⟩, ⟨g7, 67, kfC kb⟩, ⟨g6, 67, kfC ka⟩, ⟨g4, 61, [iv 0, flt 0, flt 0, flt 0, flt 0, flt 0, .slice none 0 0, .bool false]⟩, ⟨g3, 3, [iv frame]⟩]) (fun z => True) ?_ ?_
        · refine CS.drawS (HS := [⟨g8, 29, [flt tt]⟩, ⟨g7, 67, kfC kb⟩, ⟨g6, 67, kfC ka⟩, ⟨g4, 61, [iv 0, flt 0, flt 0, flt 0, flt 0, flt 0, .slice none 0 0, .bool false]⟩, ⟨g3, 3, [iv frame]⟩]) 7 (by repeat (first | exact List.Sublist.refl _ | exact List.nil_sublist _ | refine List.Sublist.cons_cons _ ?_ | refine List.Sublist.cons _ ?_ | exact Sbp.refl | exact Sbp.nil | refine Sbp.cons (by repeat (first | exact Rem.head | apply Rem.tail)) ?_ | exact Sbp.app | refine Sbp.skip ?_)) rfl (by kernel_rfl) (by kernel_rfl) ?_
          refine RT.take (i := 0) rfl (by kernel_rfl) rfl (QO.fieldAddr fo67_2 (by rfl)) ?_
          first | (refine RT.take (i := 1) rfl (by kernel_rfl) rfl (QO.loadB ty61 (by rfl) (by repeat (first | exact List.Mem.head _ | refine List.Mem.tail _ ?_)) (by rfl)) ?_) | (refine RT.take (i := 1) rfl (by kernel_rfl) rfl (QO.loadA ty61 (by rfl) (by repeat (first | exact List.Mem.head _ | refine List.Mem.tail _ ?_)) (by rfl) (by rfl)) ?_) | (refine RT.take (i := 1) rfl (by kernel_rfl) rfl (QO.loadOA ty61 (by rfl) (by assumption) (by rfl)) ?_)
          refine RT.take (i := 2) rfl (by kernel_rfl) rfl (QO.fieldAddr fo67_2 (by rfl)) ?_
          first | (refine RT.take (i := 3) rfl (by kernel_rfl) rfl (QO.loadB ty61 (by rfl) (by repeat (first | exact List.Mem.head _ | refine List.Mem.tail _ ?_)) (by rfl)) ?_) | (refine RT.take (i := 3) rfl (by kernel_rfl) rfl (QO.loadA ty61 (by rfl) (by repeat (first | exact List.Mem.head _ | refine List.Mem.tail _ ?_)) (by rfl) (by rfl)) ?_) | (refine RT.take (i := 3) rfl (by kernel_rfl) rfl (QO.loadOA ty61 (by rfl) (by assumption) (by rfl)) ?_)
          refine RT.two (i := 4) (j := 5) (by kernel_rfl) rfl rfl ?_ ?_
          · refine RS.alloc rfl ty61 ?_
            intro g10
            refine RS.nil ⟨(by repeat (first | exact List.Sublist.refl _ | exact List.nil_sublist _ | refine List.Sublist.cons_cons _ ?_ | refine List.Sublist.cons _ ?_ | exact Sbp.refl | exact Sbp.nil | refine Sbp.cons (by repeat (first | exact Rem.head | apply Rem.tail)) ?_ | exact Sbp.app | refine Sbp.skip ?_)), ?_⟩
            refine RT.one (i := 5) (by kernel_rfl) rfl rfl ?_
            refine RS.alloc rfl ty61 ?_
            intro g11
            refine RS.nil ⟨(by repeat (first | exact List.Sublist.refl _ | exact List.nil_sublist _ | refine List.Sublist.cons_cons _ ?_ | refine List.Sublist.cons _ ?_ | exact Sbp.refl | exact Sbp.nil | refine Sbp.cons (by repeat (first | exact Rem.head | apply Rem.tail)) ?_ | exact Sbp.app | refine Sbp.skip ?_)), ?_⟩
            refine RT.one (i := 6) (by kernel_rfl) rfl rfl ?_
            first | refine RS.storeB ty61 (by rfl) (by rfl) (by rfl) (by rfl) (by rfl) (by repeat (first | exact Upd.head | apply Upd.tail)) (by rfl) ?_ | refine RS.storeP ty61 (by rfl) (by rfl) (by rfl) (by rfl) (by rfl) (by repeat (first | exact Upd.head | apply Upd.tail)) (by rfl) ?_
            refine RS.nil ⟨(by repeat (first | exact List.Sublist.refl _ | exact List.nil_sublist _ | refine List.Sublist.cons_cons _ ?_ | refine List.Sublist.cons _ ?_ | exact Sbp.refl | exact Sbp.nil | refine Sbp.cons (by repeat (first | exact Rem.head | apply Rem.tail)) ?_ | exact Sbp.app | refine Sbp.skip ?_)), ?_⟩
            refine RT.tail (i := 7) (by kernel_rfl) rfl rfl ?_
            first | refine RS.storeB ty61 (by rfl) (by rfl) (by rfl) (by rfl) (by rfl) (by repeat (first | exact Upd.head | apply Upd.tail)) (by rfl) ?_ | refine RS.storeP ty61 (by rfl) (by rfl) (by rfl) (by rfl) (by rfl) (by repeat (first | exact Upd.head | apply Upd.tail)) (by rfl) ?_
            refine RS.nil ?_
            refine RT.done (by kernel_rfl) ?_
            refine cutQ_n (by intro t ht; repeat (first | with_reducible exact rfl | exact frame_puts ht (frame_mix ht) _ rfl | (refine frame_put rfl ht ?_) | (refine frame_puts ht ?_ _ rfl) | exact frame_mix ht | (refine frame_mix2 rfl ht ?_) | exact rfl)) ?_
            exact ⟨(g10, g11), trivial, (by repeat (first | exact kn_nil | refine kn_cons (by rfl) ?_)), (by repeat (first | exact List.Sublist.refl _ | exact List.nil_sublist _ | refine List.Sublist.cons_cons _ ?_ | refine List.Sublist.cons _ ?_ | exact Sbp.refl | exact Sbp.nil | refine Sbp.cons (by repeat (first | exact Rem.head | apply Rem.tail)) ?_ | exact Sbp.app | refine Sbp.skip ?_))⟩
          · refine RS.alloc rfl ty61 ?_
            intro g11
            refine RS.nil ⟨(by repeat (first | exact List.Sublist.refl _ | exact List.nil_sublist _ | refine List.Sublist.cons_cons _ ?_ | refine List.Sublist.cons _ ?_ | exact Sbp.refl | exact Sbp.nil | refine Sbp.cons (by repeat (first | exact Rem.head | apply Rem.tail)) ?_ | exact Sbp.app | refine Sbp.skip ?_)), ?_⟩
            refine RT.one (i := 4) (by kernel_rfl) rfl rfl ?_
            refine RS.alloc rfl ty61 ?_
            intro g10
            refine RS.nil ⟨(by repeat (first | exact List.Sublist.refl _ | exact List.nil_sublist _ | refine List.Sublist.cons_cons _ ?_ | refine List.Sublist.cons _ ?_ | exact Sbp.refl | exact Sbp.nil | refine Sbp.cons (by repeat (first | exact Rem.head | apply Rem.tail)) ?_ | exact Sbp.app | refine Sbp.skip ?_)), ?_⟩
            refine RT.one (i := 6) (by kernel_rfl) rfl rfl ?_
            first | refine RS.storeB ty61 (by rfl) (by rfl) (by rfl) (by rfl) (by rfl) (by repeat (first | exact Upd.head | apply Upd.tail)) (by rfl) ?_ | refine RS.storeP ty61 (by rfl) (by rfl) (by rfl) (by rfl) (by rfl) (by repeat (first | exact Upd.head | apply Upd.tail)) (by rfl) ?_
            refine RS.nil ⟨(by repeat (first | exact List.Sublist.refl _ | exact List.nil_sublist _ | refine List.Sublist.cons_cons _ ?_ | refine List.Sublist.cons _ ?_ | exact Sbp.refl | exact Sbp.nil | refine Sbp.cons (by repeat (first | exact Rem.head | apply Rem.tail)) ?_ | exact Sbp.app | refine Sbp.skip ?_)), ?_⟩
            refine RT.tail (i := 7) (by kernel_rfl) rfl rfl ?_
            first | refine RS.storeB ty61 (by rfl) (by rfl) (by rfl) (by rfl) (by rfl) (by repeat (first | exact Upd.head | apply Upd.tail)) (by rfl) ?_ | refine RS.storeP ty61 (by rfl) (by rfl) (by rfl) (by rfl) (by rfl) (by repeat (first | exact Upd.head | apply Upd.tail)) (by rfl) ?_
            refine RS.nil ?_
            refine RT.done (by kernel_rfl) ?_
            refine cutQ_n (by intro t ht; repeat (first | with_reducible exact rfl | exact frame_puts ht (frame_mix ht) _ rfl | (refine frame_put rfl ht ?_) | (refine frame_puts ht ?_ _ rfl) | exact frame_mix ht | (refine frame_mix2 rfl ht ?_) | exact rfl)) ?_
            exact ⟨(g10, g11), trivial, (by repeat (first | exact kn_nil | refine kn_cons (by rfl) ?_)), (by repeat (first | exact List.Sublist.refl _ | exact List.nil_sublist _ | refine List.Sublist.cons_cons _ ?_ | refine List.Sublist.cons _ ?_ | exact Sbp.refl | exact Sbp.nil | refine Sbp.cons (by repeat (first | exact Rem.head | apply Rem.tail)) ?_ | exact Sbp.app | refine Sbp.skip ?_))⟩
        · intro z gj hz
          obtain ⟨g10, g11⟩ := z
          show CS _ _ _ _ _ (puts (mix _ _ _) [(10, .pointer (some ⟨g10, 0, none⟩)), (11, .pointer (some ⟨g11, 0, none⟩))]) ([⟨g11, 61, winC kb.win kb.A kb.c⟩, ⟨g10, 61, winC ka.win ka.A ka.c⟩, ⟨g8, 29, [flt tt]⟩, ⟨g7, 67, kfC kb⟩, ⟨g6, 67, kfC ka⟩, ⟨g4, 61, [iv 0, flt 0, flt 0, flt 0, flt 0, flt 0, .slice none 0 0, .bool false]⟩, ⟨g3, 3, [iv frame]⟩])
          refine CS.cut (X := Nat) (12 :: 87 :: 88 :: 89 :: 90 :: 91 :: 92 :: 93 :: 94 :: 95 :: 96 :: 97 :: 98 :: 99 :: 100 :: 101 :: 102 :: 103 :: 104 :: 105 :: 106 :: 107 :: 108 :: 109 :: 110 :: 111 :: 112 :: 113 :: 114 :: 115 :: 116 :: 117 :: 118 :: 119 :: 120 :: 121 :: []) (fun g12 => [(12, .pointer (some ⟨g12, 0, none⟩))]) (fun g12 => [⟨g12, 61, [iv ka.win.kind, flt (lerpV ka.win.x kb.win.x tt), flt (lerpV ka.win.y kb.win.y tt), flt (lerpV ka.win.w kb.win.w tt), flt (lerpV ka.win.h kb.win.h tt), flt (lerpV ka.win.soft kb.win.soft tt), .slice none 0 0, .bool ka.win.out]⟩, ⟨g11, 61, winC kb.win kb.A kb.c⟩, ⟨g10, 61, winC ka.win ka.A ka.c⟩, ⟨g8, 29, [flt tt]⟩, ⟨g7, 67, kfC kb⟩, ⟨g6, 67, kfC ka⟩, ⟨g4, 61, [iv 0, flt 0, flt 0, flt 0, flt 0, flt 0, .slice none 0 0, .bool false]⟩, ⟨g3, 3, [iv frame]⟩]) (fun g12 => True) ?_ ?_
          · refine CS.draw 36 rfl (by kernel_rfl) (by kernel_rfl) ?_
            refine RT.take (i := 0) rfl (by kernel_rfl) rfl (QO.fieldAddr fo61_0 (by rfl)) ?_
            first | (refine RT.take (i := 1) rfl (by kernel_rfl) rfl (QO.load ty3 (by rfl) (by repeat (first | exact List.Mem.head _ | refine List.Mem.tail _ ?_)) (by rfl)) ?_) | (refine RT.take (i := 1) rfl (by kernel_rfl) rfl (QO.loadO ty3 (by rfl) (by assumption)) ?_) | (refine RT.take (i := 1) rfl (by kernel_rfl) rfl (QO.load ty3 (by rfl) (by repeat (first | exact List.Mem.head _ | refine List.Mem.tail _ ?_)) (by assumption)) ?_)
            refine RT.take (i := 2) rfl (by kernel_rfl) rfl (QO.fieldAddr fo61_7 (by rfl)) ?_
            first | (refine RT.take (i := 3) rfl (by kernel_rfl) rfl (QO.load ty4 (by rfl) (by repeat (first | exact List.Mem.head _ | refine List.Mem.tail _ ?_)) (by rfl)) ?_) | (refine RT.take (i := 3) rfl (by kernel_rfl) rfl (QO.loadO ty4 (by rfl) (by assumption)) ?_) | (refine RT.take (i := 3) rfl (by kernel_rfl) rfl (QO.load ty4 (by rfl) (by repeat (first | exact List.Mem.head _ | refine List.Mem.tail _ ?_)) (by assumption)) ?_)
            refine RT.take (i := 4) rfl (by kernel_rfl) rfl (QO.move) ?_
            refine RT.take (i := 5) rfl (by kernel_rfl) rfl (QO.fieldAddr fo61_1 (by rfl)) ?_
            first | (refine RT.take (i := 6) rfl (by kernel_rfl) rfl (QO.load ty29 (by rfl) (by repeat (first | exact List.Mem.head _ | refine List.Mem.tail _ ?_)) (by rfl)) ?_) | (refine RT.take (i := 6) rfl (by kernel_rfl) rfl (QO.loadO ty29 (by rfl) (by assumption)) ?_) | (refine RT.take (i := 6) rfl (by kernel_rfl) rfl (QO.load ty29 (by rfl) (by repeat (first | exact List.Mem.head _ | refine List.Mem.tail _ ?_)) (by assumption)) ?_)
            refine RT.take (i := 7) rfl (by kernel_rfl) rfl (QO.fieldAddr fo61_1 (by rfl)) ?_
            first | (refine RT.take (i := 8) rfl (by kernel_rfl) rfl (QO.load ty29 (by rfl) (by repeat (first | exact List.Mem.head _ | refine List.Mem.tail _ ?_)) (by rfl)) ?_) | (refine RT.take (i := 8) rfl (by kernel_rfl) rfl (QO.loadO ty29 (by rfl) (by assumption)) ?_) | (refine RT.take (i := 8) rfl (by kernel_rfl) rfl (QO.load ty29 (by rfl) (by repeat (first | exact List.Mem.head _ | refine List.Mem.tail _ ?_)) (by assumption)) ?_)
            refine RT.take (i := 10) rfl (by kernel_rfl) rfl (QO.move) ?_
            refine RT.take (i := 11) rfl (by kernel_rfl) rfl (QO.fieldAddr fo61_2 (by rfl)) ?_
            first | (refine RT.take (i := 12) rfl (by kernel_rfl) rfl (QO.load ty29 (by rfl) (by repeat (first | exact List.Mem.head _ | refine List.Mem.tail _ ?_)) (by rfl)) ?_) | (refine RT.take (i := 12) rfl (by kernel_rfl) rfl (QO.loadO ty29 (by rfl) (by assumption)) ?_) | (refine RT.take (i := 12) rfl (by kernel_rfl) rfl (QO.load ty29 (by rfl) (by repeat (first | exact List.Mem.head _ | refine List.Mem.tail _ ?_)) (by assumption)) ?_)
            refine RT.take (i := 13) rfl (by kernel_rfl) rfl (QO.fieldAddr fo61_2 (by rfl)) ?_
            first | (refine RT.take (i := 14) rfl (by kernel_rfl) rfl (QO.load ty29 (by rfl) (by repeat (first | exact List.Mem.head _ | refine List.Mem.tail _ ?_)) (by rfl)) ?_) | (refine RT.take (i := 14) rfl (by kernel_rfl) rfl (QO.loadO ty29 (by rfl) (by assumption)) ?_) | (refine RT.take (i := 14) rfl (by kernel_rfl) rfl (QO.load ty29 (by rfl) (by repeat (first | exact List.Mem.head _ | refine List.Mem.tail _ ?_)) (by assumption)) ?_)
            refine RT.take (i := 16) rfl (by kernel_rfl) rfl (QO.move) ?_
            refine RT.take (i := 17) rfl (by kernel_rfl) rfl (QO.fieldAddr fo61_3 (by rfl)) ?_
            first | (refine RT.take (i := 18) rfl (by kernel_rfl) rfl (QO.load ty29 (by rfl) (by repeat (first | exact List.Mem.head _ | refine List.Mem.tail _ ?_)) (by rfl)) ?_) | (refine RT.take (i := 18) rfl (by kernel_rfl) rfl (QO.loadO ty29 (by rfl) (by assumption)) ?_) | (refine RT.take (i := 18) rfl (by kernel_rfl) rfl (QO.load ty29 (by rfl) (by repeat (first | exact List.Mem.head _ | refine List.Mem.tail _ ?_)) (by assumption)) ?_)
            refine RT.take (i := 19) rfl (by kernel_rfl) rfl (QO.fieldAddr fo61_3 (by rfl)) ?_
            first | (refine RT.take (i := 20) rfl (by kernel_rfl) rfl (QO.load ty29 (by rfl) (by repeat (first | exact List.Mem.head _ | refine List.Mem.tail _ ?_)) (by rfl)) ?_) | (refine RT.take (i := 20) rfl (by kernel_rfl) rfl (QO.loadO ty29 (by rfl) (by assumption)) ?_) | (refine RT.take (i := 20) rfl (by kernel_rfl) rfl (QO.load ty29 (by rfl) (by repeat (first | exact List.Mem.head _ | refine List.Mem.tail _ ?_)) (by assumption)) ?_)
            refine RT.take (i := 22) rfl (by kernel_rfl) rfl (QO.move) ?_
            refine RT.take (i := 23) rfl (by kernel_rfl) rfl (QO.fieldAddr fo61_4 (by rfl)) ?_
            first | (refine RT.take (i := 24) rfl (by kernel_rfl) rfl (QO.load ty29 (by rfl) (by repeat (first | exact List.Mem.head _ | refine List.Mem.tail _ ?_)) (by rfl)) ?_) | (refine RT.take (i := 24) rfl (by kernel_rfl) rfl (QO.loadO ty29 (by rfl) (by assumption)) ?_) | (refine RT.take (i := 24) rfl (by kernel_rfl) rfl (QO.load ty29 (by rfl) (by repeat (first | exact List.Mem.head _ | refine List.Mem.tail _ ?_)) (by assumption)) ?_)
            refine RT.take (i := 25) rfl (by kernel_rfl) rfl (QO.fieldAddr fo61_4 (by rfl)) ?_
            first | (refine RT.take (i := 26) rfl (by kernel_rfl) rfl (QO.load ty29 (by rfl) (by repeat (first | exact List.Mem.head _ | refine List.Mem.tail _ ?_)) (by rfl)) ?_) | (refine RT.take (i := 26) rfl (by kernel_rfl) rfl (QO.loadO ty29 (by rfl) (by assumption)) ?_) | (refine RT.take (i := 26) rfl (by kernel_rfl) rfl (QO.load ty29 (by rfl) (by repeat (first | exact List.Mem.head _ | refine List.Mem.tail _ ?_)) (by assumption)) ?_)
            refine RT.take (i := 28) rfl (by kernel_rfl) rfl (QO.move) ?_
            refine RT.take (i := 29) rfl (by kernel_rfl) rfl (QO.fieldAddr fo61_5 (by rfl)) ?_
            first | (refine RT.take (i := 30) rfl (by kernel_rfl) rfl (QO.load ty29 (by rfl) (by repeat (first | exact List.Mem.head _ | refine List.Mem.tail _ ?_)) (by rfl)) ?_) | (refine RT.take (i := 30) rfl (by kernel_rfl) rfl (QO.loadO ty29 (by rfl) (by assumption)) ?_) | (refine RT.take (i := 30) rfl (by kernel_rfl) rfl (QO.load ty29 (by rfl) (by repeat (first | exact List.Mem.head _ | refine List.Mem.tail _ ?_)) (by assumption)) ?_)
            refine RT.take (i := 31) rfl (by kernel_rfl) rfl (QO.fieldAddr fo61_5 (by rfl)) ?_
            first | (refine RT.take (i := 32) rfl (by kernel_rfl) rfl (QO.load ty29 (by rfl) (by repeat (first | exact List.Mem.head _ | refine List.Mem.tail _ ?_)) (by rfl)) ?_) | (refine RT.take (i := 32) rfl (by kernel_rfl) rfl (QO.loadO ty29 (by rfl) (by assumption)) ?_) | (refine RT.take (i := 32) rfl (by kernel_rfl) rfl (QO.load ty29 (by rfl) (by repeat (first | exact List.Mem.head _ | refine List.Mem.tail _ ?_)) (by assumption)) ?_)
            refine RT.two (i := 9) (j := 35) (by kernel_rfl) rfl rfl ?_ ?_
            · refine RS.call rfl (by rfl) ok81 (by rfl) (fun w ho => mixC ka.win.x kb.win.x tt g8 _ (cell1Own (t := 29) ho (by repeat (first | exact List.Mem.head _ | refine List.Mem.tail _ ?_)))) ?_
              rintro _ _ ⟨rfl, rfl⟩
              refine RS.nil ⟨(by repeat (first | exact List.Sublist.refl _ | exact List.nil_sublist _ | refine List.Sublist.cons_cons _ ?_ | refine List.Sublist.cons _ ?_ | exact Sbp.refl | exact Sbp.nil | refine Sbp.cons (by repeat (first | exact Rem.head | apply Rem.tail)) ?_ | exact Sbp.app | refine Sbp.skip ?_)), ?_⟩
              refine RT.two (i := 15) (j := 35) (by kernel_rfl) rfl rfl ?_ ?_
              · refine RS.call rfl (by rfl) ok81 (by rfl) (fun w ho => mixC ka.win.y kb.win.y tt g8 _ (cell1Own (t := 29) ho (by repeat (first | exact List.Mem.head _ | refine List.Mem.tail _ ?_)))) ?_
                rintro _ _ ⟨rfl, rfl⟩
                refine RS.nil ⟨(by repeat (first | exact List.Sublist.refl _ | exact List.nil_sublist _ | refine List.Sublist.cons_cons _ ?_ | refine List.Sublist.cons _ ?_ | exact Sbp.refl | exact Sbp.nil | refine Sbp.cons (by repeat (first | exact Rem.head | apply Rem.tail)) ?_ | exact Sbp.app | refine Sbp.skip ?_)), ?_⟩
                refine RT.two (i := 21) (j := 35) (by kernel_rfl) rfl rfl ?_ ?_
                · refine RS.call rfl (by rfl) ok81 (by rfl) (fun w ho => mixC ka.win.w kb.win.w tt g8 _ (cell1Own (t := 29) ho (by repeat (first | exact List.Mem.head _ | refine List.Mem.tail _ ?_)))) ?_
                  rintro _ _ ⟨rfl, rfl⟩
                  refine RS.nil ⟨(by repeat (first | exact List.Sublist.refl _ | exact List.nil_sublist _ | refine List.Sublist.cons_cons _ ?_ | refine List.Sublist.cons _ ?_ | exact Sbp.refl | exact Sbp.nil | refine Sbp.cons (by repeat (first | exact Rem.head | apply Rem.tail)) ?_ | exact Sbp.app | refine Sbp.skip ?_)), ?_⟩
                  refine RT.two (i := 27) (j := 35) (by kernel_rfl) rfl rfl ?_ ?_
                  · refine RS.call rfl (by rfl) ok81 (by rfl) (fun w ho => mixC ka.win.h kb.win.h tt g8 _ (cell1Own (t := 29) ho (by repeat (first | exact List.Mem.head _ | refine List.Mem.tail _ ?_)))) ?_
                    rintro _ _ ⟨rfl, rfl⟩
                    refine RS.nil ⟨(by repeat (first | exact List.Sublist.refl _ | exact List.nil_sublist _ | refine List.Sublist.cons_cons _ ?_ | refine List.Sublist.cons _ ?_ | exact Sbp.refl | exact Sbp.nil | refine Sbp.cons (by repeat (first | exact Rem.head | apply Rem.tail)) ?_ | exact Sbp.app | refine Sbp.skip ?_)), ?_⟩
                    refine RT.two (i := 33) (j := 35) (by kernel_rfl) rfl rfl ?_ ?_
                    · refine RS.call rfl (by rfl) ok81 (by rfl) (fun w ho => mixC ka.win.soft kb.win.soft tt g8 _ (cell1Own (t := 29) ho (by repeat (first | exact List.Mem.head _ | refine List.Mem.tail _ ?_)))) ?_
                      rintro _ _ ⟨rfl, rfl⟩
                      refine RS.nil ⟨(by repeat (first | exact List.Sublist.refl _ | exact List.nil_sublist _ | refine List.Sublist.cons_cons _ ?_ | refine List.Sublist.cons _ ?_ | exact Sbp.refl | exact Sbp.nil | refine Sbp.cons (by repeat (first | exact Rem.head | apply Rem.tail)) ?_ | exact Sbp.app | refine Sbp.skip ?_)), ?_⟩
                      refine RT.takev (i := 34) rfl (by kernel_rfl) rfl (QO.build ty61 pl61 (by rfl)) (show _ = Value.agg #[iv ka.win.kind, flt (lerpV ka.win.x kb.win.x tt), flt (lerpV ka.win.y kb.win.y tt), flt (lerpV ka.win.w kb.win.w tt), flt (lerpV ka.win.h kb.win.h tt), flt (lerpV ka.win.soft kb.win.soft tt), .slice none 0 0, .bool ka.win.out] from rfl) ?_
                      refine RT.one (i := 35) (by kernel_rfl) rfl rfl ?_
                      refine RS.alloc rfl ty61 ?_
                      intro g12
                      refine RS.nil ⟨(by repeat (first | exact List.Sublist.refl _ | exact List.nil_sublist _ | refine List.Sublist.cons_cons _ ?_ | refine List.Sublist.cons _ ?_ | exact Sbp.refl | exact Sbp.nil | refine Sbp.cons (by repeat (first | exact Rem.head | apply Rem.tail)) ?_ | exact Sbp.app | refine Sbp.skip ?_)), ?_⟩
                      refine RT.tail (i := 36) (by kernel_rfl) rfl rfl ?_
                      first | refine RS.storeB ty61 (by rfl) (by rfl) (by rfl) (by rfl) (by rfl) (by repeat (first | exact Upd.head | apply Upd.tail)) (by rfl) ?_ | refine RS.storeP ty61 (by rfl) (by rfl) (by rfl) (by rfl) (by rfl) (by repeat (first | exact Upd.head | apply Upd.tail)) (by rfl) ?_
                      refine RS.nil ?_
                      refine RT.done (by kernel_rfl) ?_
                      refine cutQ_n (by intro t ht; repeat (first | with_reducible exact rfl | exact frame_puts ht (frame_mix ht) _ rfl | (refine frame_put rfl ht ?_) | (refine frame_puts ht ?_ _ rfl) | exact frame_mix ht | (refine frame_mix2 rfl ht ?_) | exact rfl)) ?_
                      exact ⟨g12, trivial, (by repeat (first | exact kn_nil | refine kn_cons (by rfl) ?_)), (by repeat (first | exact List.Sublist.refl _ | exact List.nil_sublist _ | refine List.Sublist.cons_cons _ ?_ | refine List.Sublist.cons _ ?_ | exact Sbp.refl | exact Sbp.nil | refine Sbp.cons (by repeat (first | exact Rem.head | apply Rem.tail)) ?_ | exact Sbp.app | refine Sbp.skip ?_))⟩
                    · refine RS.alloc rfl ty61 ?_
                      intro g12
                      refine RS.nil ⟨(by repeat (first | exact List.Sublist.refl _ | exact List.nil_sublist _ | refine List.Sublist.cons_cons _ ?_ | refine List.Sublist.cons _ ?_ | exact Sbp.refl | exact Sbp.nil | refine Sbp.cons (by repeat (first | exact Rem.head | apply Rem.tail)) ?_ | exact Sbp.app | refine Sbp.skip ?_)), ?_⟩
                      refine RT.one (i := 33) (by kernel_rfl) rfl rfl ?_
                      refine RS.call rfl (by rfl) ok81 (by rfl) (fun w ho => mixC ka.win.soft kb.win.soft tt g8 _ (cell1Own (t := 29) ho (by repeat (first | exact List.Mem.head _ | refine List.Mem.tail _ ?_)))) ?_
                      rintro _ _ ⟨rfl, rfl⟩
                      refine RS.nil ⟨(by repeat (first | exact List.Sublist.refl _ | exact List.nil_sublist _ | refine List.Sublist.cons_cons _ ?_ | refine List.Sublist.cons _ ?_ | exact Sbp.refl | exact Sbp.nil | refine Sbp.cons (by repeat (first | exact Rem.head | apply Rem.tail)) ?_ | exact Sbp.app | refine Sbp.skip ?_)), ?_⟩
                      refine RT.takev (i := 34) rfl (by kernel_rfl) rfl (QO.build ty61 pl61 (by rfl)) (show _ = Value.agg #[iv ka.win.kind, flt (lerpV ka.win.x kb.win.x tt), flt (lerpV ka.win.y kb.win.y tt), flt (lerpV ka.win.w kb.win.w tt), flt (lerpV ka.win.h kb.win.h tt), flt (lerpV ka.win.soft kb.win.soft tt), .slice none 0 0, .bool ka.win.out] from rfl) ?_
                      refine RT.tail (i := 36) (by kernel_rfl) rfl rfl ?_
                      first | refine RS.storeB ty61 (by rfl) (by rfl) (by rfl) (by rfl) (by rfl) (by repeat (first | exact Upd.head | apply Upd.tail)) (by rfl) ?_ | refine RS.storeP ty61 (by rfl) (by rfl) (by rfl) (by rfl) (by rfl) (by repeat (first | exact Upd.head | apply Upd.tail)) (by rfl) ?_
                      refine RS.nil ?_
                      refine RT.done (by kernel_rfl) ?_
                      refine cutQ_n (by intro t ht; repeat (first | with_reducible exact rfl | exact frame_puts ht (frame_mix ht) _ rfl | (refine frame_put rfl ht ?_) | (refine frame_puts ht ?_ _ rfl) | exact frame_mix ht | (refine frame_mix2 rfl ht ?_) | exact rfl)) ?_
                      exact ⟨g12, trivial, (by repeat (first | exact kn_nil | refine kn_cons (by rfl) ?_)), (by repeat (first | exact List.Sublist.refl _ | exact List.nil_sublist _ | refine List.Sublist.cons_cons _ ?_ | refine List.Sublist.cons _ ?_ | exact Sbp.refl | exact Sbp.nil | refine Sbp.cons (by repeat (first | exact Rem.head | apply Rem.tail)) ?_ | exact Sbp.app | refine Sbp.skip ?_))⟩
                  · refine RS.alloc rfl ty61 ?_
                    intro g12
                    refine RS.nil ⟨(by repeat (first | exact List.Sublist.refl _ | exact List.nil_sublist _ | refine List.Sublist.cons_cons _ ?_ | refine List.Sublist.cons _ ?_ | exact Sbp.refl | exact Sbp.nil | refine Sbp.cons (by repeat (first | exact Rem.head | apply Rem.tail)) ?_ | exact Sbp.app | refine Sbp.skip ?_)), ?_⟩
                    refine RT.one (i := 27) (by kernel_rfl) rfl rfl ?_
                    refine RS.call rfl (by rfl) ok81 (by rfl) (fun w ho => mixC ka.win.h kb.win.h tt g8 _ (cell1Own (t := 29) ho (by repeat (first | exact List.Mem.head _ | refine List.Mem.tail _ ?_)))) ?_
                    rintro _ _ ⟨rfl, rfl⟩
                    refine RS.nil ⟨(by repeat (first | exact List.Sublist.refl _ | exact List.nil_sublist _ | refine List.Sublist.cons_cons _ ?_ | refine List.Sublist.cons _ ?_ | exact Sbp.refl | exact Sbp.nil | refine Sbp.cons (by repeat (first | exact Rem.head | apply Rem.tail)) ?_ | exact Sbp.app | refine Sbp.skip ?_)), ?_⟩
                    refine RT.one (i := 33) (by kernel_rfl) rfl rfl ?_
                    refine RS.call rfl (by rfl) ok81 (by rfl) (fun w ho => mixC ka.win.soft kb.win.soft tt g8 _ (cell1Own (t := 29) ho (by repeat (first | exact List.Mem.head _ | refine List.Mem.tail _ ?_)))) ?_
                    rintro _ _ ⟨rfl, rfl⟩
                    refine RS.nil ⟨(by repeat (first | exact List.Sublist.refl _ | exact List.nil_sublist _ | refine List.Sublist.cons_cons _ ?_ | refine List.Sublist.cons _ ?_ | exact Sbp.refl | exact Sbp.nil | refine Sbp.cons (by repeat (first | exact Rem.head | apply Rem.tail)) ?_ | exact Sbp.app | refine Sbp.skip ?_)), ?_⟩
                    refine RT.takev (i := 34) rfl (by kernel_rfl) rfl (QO.build ty61 pl61 (by rfl)) (show _ = Value.agg #[iv ka.win.kind, flt (lerpV ka.win.x kb.win.x tt), flt (lerpV ka.win.y kb.win.y tt), flt (lerpV ka.win.w kb.win.w tt), flt (lerpV ka.win.h kb.win.h tt), flt (lerpV ka.win.soft kb.win.soft tt), .slice none 0 0, .bool ka.win.out] from rfl) ?_
                    refine RT.tail (i := 36) (by kernel_rfl) rfl rfl ?_
                    first | refine RS.storeB ty61 (by rfl) (by rfl) (by rfl) (by rfl) (by rfl) (by repeat (first | exact Upd.head | apply Upd.tail)) (by rfl) ?_ | refine RS.storeP ty61 (by rfl) (by rfl) (by rfl) (by rfl) (by rfl) (by repeat (first | exact Upd.head | apply Upd.tail)) (by rfl) ?_
                    refine RS.nil ?_
                    refine RT.done (by kernel_rfl) ?_
                    refine cutQ_n (by intro t ht; repeat (first | with_reducible exact rfl | exact frame_puts ht (frame_mix ht) _ rfl | (refine frame_put rfl ht ?_) | (refine frame_puts ht ?_ _ rfl) | exact frame_mix ht | (refine frame_mix2 rfl ht ?_) | exact rfl)) ?_
                    exact ⟨g12, trivial, (by repeat (first | exact kn_nil | refine kn_cons (by rfl) ?_)), (by repeat (first | exact List.Sublist.refl _ | exact List.nil_sublist _ | refine List.Sublist.cons_cons _ ?_ | refine List.Sublist.cons _ ?_ | exact Sbp.refl | exact Sbp.nil | refine Sbp.cons (by repeat (first | exact Rem.head | apply Rem.tail)) ?_ | exact Sbp.app | refine Sbp.skip ?_))⟩
                · refine RS.alloc rfl ty61 ?_
                  intro g12
                  refine RS.nil ⟨(by repeat (first | exact List.Sublist.refl _ | exact List.nil_sublist _ | refine List.Sublist.cons_cons _ ?_ | refine List.Sublist.cons _ ?_ | exact Sbp.refl | exact Sbp.nil | refine Sbp.cons (by repeat (first | exact Rem.head | apply Rem.tail)) ?_ | exact Sbp.app | refine Sbp.skip ?_)), ?_⟩
                  refine RT.one (i := 21) (by kernel_rfl) rfl rfl ?_
                  refine RS.call rfl (by rfl) ok81 (by rfl) (fun w ho => mixC ka.win.w kb.win.w tt g8 _ (cell1Own (t := 29) ho (by repeat (first | exact List.Mem.head _ | refine List.Mem.tail _ ?_)))) ?_
                  rintro _ _ ⟨rfl, rfl⟩
                  refine RS.nil ⟨(by repeat (first | exact List.Sublist.refl _ | exact List.nil_sublist _ | refine List.Sublist.cons_cons _ ?_ | refine List.Sublist.cons _ ?_ | exact Sbp.refl | exact Sbp.nil | refine Sbp.cons (by repeat (first | exact Rem.head | apply Rem.tail)) ?_ | exact Sbp.app | refine Sbp.skip ?_)), ?_⟩
                  refine RT.one (i := 27) (by kernel_rfl) rfl rfl ?_
                  refine RS.call rfl (by rfl) ok81 (by rfl) (fun w ho => mixC ka.win.h kb.win.h tt g8 _ (cell1Own (t := 29) ho (by repeat (first | exact List.Mem.head _ | refine List.Mem.tail _ ?_)))) ?_
                  rintro _ _ ⟨rfl, rfl⟩
                  refine RS.nil ⟨(by repeat (first | exact List.Sublist.refl _ | exact List.nil_sublist _ | refine List.Sublist.cons_cons _ ?_ | refine List.Sublist.cons _ ?_ | exact Sbp.refl | exact Sbp.nil | refine Sbp.cons (by repeat (first | exact Rem.head | apply Rem.tail)) ?_ | exact Sbp.app | refine Sbp.skip ?_)), ?_⟩
                  refine RT.one (i := 33) (by kernel_rfl) rfl rfl ?_
                  refine RS.call rfl (by rfl) ok81 (by rfl) (fun w ho => mixC ka.win.soft kb.win.soft tt g8 _ (cell1Own (t := 29) ho (by repeat (first | exact List.Mem.head _ | refine List.Mem.tail _ ?_)))) ?_
                  rintro _ _ ⟨rfl, rfl⟩
                  refine RS.nil ⟨(by repeat (first | exact List.Sublist.refl _ | exact List.nil_sublist _ | refine List.Sublist.cons_cons _ ?_ | refine List.Sublist.cons _ ?_ | exact Sbp.refl | exact Sbp.nil | refine Sbp.cons (by repeat (first | exact Rem.head | apply Rem.tail)) ?_ | exact Sbp.app | refine Sbp.skip ?_)), ?_⟩
                  refine RT.takev (i := 34) rfl (by kernel_rfl) rfl (QO.build ty61 pl61 (by rfl)) (show _ = Value.agg #[iv ka.win.kind, flt (lerpV ka.win.x kb.win.x tt), flt (lerpV ka.win.y kb.win.y tt), flt (lerpV ka.win.w kb.win.w tt), flt (lerpV ka.win.h kb.win.h tt), flt (lerpV ka.win.soft kb.win.soft tt), .slice none 0 0, .bool ka.win.out] from rfl) ?_
                  refine RT.tail (i := 36) (by kernel_rfl) rfl rfl ?_
                  first | refine RS.storeB ty61 (by rfl) (by rfl) (by rfl) (by rfl) (by rfl) (by repeat (first | exact Upd.head | apply Upd.tail)) (by rfl) ?_ | refine RS.storeP ty61 (by rfl) (by rfl) (by rfl) (by rfl) (by rfl) (by repeat (first | exact Upd.head | apply Upd.tail)) (by rfl) ?_
                  refine RS.nil ?_
                  refine RT.done (by kernel_rfl) ?_
                  refine cutQ_n (by intro t ht; repeat (first | with_reducible exact rfl | exact frame_puts ht (frame_mix ht) _ rfl | (refine frame_put rfl ht ?_) | (refine frame_puts ht ?_ _ rfl) | exact frame_mix ht | (refine frame_mix2 rfl ht ?_) | exact rfl)) ?_
                  exact ⟨g12, trivial, (by repeat (first | exact kn_nil | refine kn_cons (by rfl) ?_)), (by repeat (first | exact List.Sublist.refl _ | exact List.nil_sublist _ | refine List.Sublist.cons_cons _ ?_ | refine List.Sublist.cons _ ?_ | exact Sbp.refl | exact Sbp.nil | refine Sbp.cons (by repeat (first | exact Rem.head | apply Rem.tail)) ?_ | exact Sbp.app | refine Sbp.skip ?_))⟩
              · refine RS.alloc rfl ty61 ?_
                intro g12
                refine RS.nil ⟨(by repeat (first | exact List.Sublist.refl _ | exact List.nil_sublist _ | refine List.Sublist.cons_cons _ ?_ | refine List.Sublist.cons _ ?_ | exact Sbp.refl | exact Sbp.nil | refine Sbp.cons (by repeat (first | exact Rem.head | apply Rem.tail)) ?_ | exact Sbp.app | refine Sbp.skip ?_)), ?_⟩
                refine RT.one (i := 15) (by kernel_rfl) rfl rfl ?_
                refine RS.call rfl (by rfl) ok81 (by rfl) (fun w ho => mixC ka.win.y kb.win.y tt g8 _ (cell1Own (t := 29) ho (by repeat (first | exact List.Mem.head _ | refine List.Mem.tail _ ?_)))) ?_
                rintro _ _ ⟨rfl, rfl⟩
                refine RS.nil ⟨(by repeat (first | exact List.Sublist.refl _ | exact List.nil_sublist _ | refine List.Sublist.cons_cons _ ?_ | refine List.Sublist.cons _ ?_ | exact Sbp.refl | exact Sbp.nil | refine Sbp.cons (by repeat (first | exact Rem.head | apply Rem.tail)) ?_ | exact Sbp.app | refine Sbp.skip ?_)), ?_⟩
                refine RT.one (i := 21) (by kernel_rfl) rfl rfl ?_
                refine RS.call rfl (by rfl) ok81 (by rfl) (fun w ho => mixC ka.win.w kb.win.w tt g8 _ (cell1Own (t := 29) ho (by repeat (first | exact List.Mem.head _ | refine List.Mem.tail _ ?_)))) ?_
                rintro _ _ ⟨rfl, rfl⟩
                refine RS.nil ⟨(by repeat (first | exact List.Sublist.refl _ | exact List.nil_sublist _ | refine List.Sublist.cons_cons _ ?_ | refine List.Sublist.cons _ ?_ | exact Sbp.refl | exact Sbp.nil | refine Sbp.cons (by repeat (first | exact Rem.head | apply Rem.tail)) ?_ | exact Sbp.app | refine Sbp.skip ?_)), ?_⟩
                refine RT.one (i := 27) (by kernel_rfl) rfl rfl ?_
                refine RS.call rfl (by rfl) ok81 (by rfl) (fun w ho => mixC ka.win.h kb.win.h tt g8 _ (cell1Own (t := 29) ho (by repeat (first | exact List.Mem.head _ | refine List.Mem.tail _ ?_)))) ?_
                rintro _ _ ⟨rfl, rfl⟩
                refine RS.nil ⟨(by repeat (first | exact List.Sublist.refl _ | exact List.nil_sublist _ | refine List.Sublist.cons_cons _ ?_ | refine List.Sublist.cons _ ?_ | exact Sbp.refl | exact Sbp.nil | refine Sbp.cons (by repeat (first | exact Rem.head | apply Rem.tail)) ?_ | exact Sbp.app | refine Sbp.skip ?_)), ?_⟩
                refine RT.one (i := 33) (by kernel_rfl) rfl rfl ?_
                refine RS.call rfl (by rfl) ok81 (by rfl) (fun w ho => mixC ka.win.soft kb.win.soft tt g8 _ (cell1Own (t := 29) ho (by repeat (first | exact List.Mem.head _ | refine List.Mem.tail _ ?_)))) ?_
                rintro _ _ ⟨rfl, rfl⟩
                refine RS.nil ⟨(by repeat (first | exact List.Sublist.refl _ | exact List.nil_sublist _ | refine List.Sublist.cons_cons _ ?_ | refine List.Sublist.cons _ ?_ | exact Sbp.refl | exact Sbp.nil | refine Sbp.cons (by repeat (first | exact Rem.head | apply Rem.tail)) ?_ | exact Sbp.app | refine Sbp.skip ?_)), ?_⟩
                refine RT.takev (i := 34) rfl (by kernel_rfl) rfl (QO.build ty61 pl61 (by rfl)) (show _ = Value.agg #[iv ka.win.kind, flt (lerpV ka.win.x kb.win.x tt), flt (lerpV ka.win.y kb.win.y tt), flt (lerpV ka.win.w kb.win.w tt), flt (lerpV ka.win.h kb.win.h tt), flt (lerpV ka.win.soft kb.win.soft tt), .slice none 0 0, .bool ka.win.out] from rfl) ?_
                refine RT.tail (i := 36) (by kernel_rfl) rfl rfl ?_
                first | refine RS.storeB ty61 (by rfl) (by rfl) (by rfl) (by rfl) (by rfl) (by repeat (first | exact Upd.head | apply Upd.tail)) (by rfl) ?_ | refine RS.storeP ty61 (by rfl) (by rfl) (by rfl) (by rfl) (by rfl) (by repeat (first | exact Upd.head | apply Upd.tail)) (by rfl) ?_
                refine RS.nil ?_
                refine RT.done (by kernel_rfl) ?_
                refine cutQ_n (by intro t ht; repeat (first | with_reducible exact rfl | exact frame_puts ht (frame_mix ht) _ rfl | (refine frame_put rfl ht ?_) | (refine frame_puts ht ?_ _ rfl) | exact frame_mix ht | (refine frame_mix2 rfl ht ?_) | exact rfl)) ?_
                exact ⟨g12, trivial, (by repeat (first | exact kn_nil | refine kn_cons (by rfl) ?_)), (by repeat (first | exact List.Sublist.refl _ | exact List.nil_sublist _ | refine List.Sublist.cons_cons _ ?_ | refine List.Sublist.cons _ ?_ | exact Sbp.refl | exact Sbp.nil | refine Sbp.cons (by repeat (first | exact Rem.head | apply Rem.tail)) ?_ | exact Sbp.app | refine Sbp.skip ?_))⟩
            · refine RS.alloc rfl ty61 ?_
              intro g12
              refine RS.nil ⟨(by repeat (first | exact List.Sublist.refl _ | exact List.nil_sublist _ | refine List.Sublist.cons_cons _ ?_ | refine List.Sublist.cons _ ?_ | exact Sbp.refl | exact Sbp.nil | refine Sbp.cons (by repeat (first | exact Rem.head | apply Rem.tail)) ?_ | exact Sbp.app | refine Sbp.skip ?_)), ?_⟩
              refine RT.one (i := 9) (by kernel_rfl) rfl rfl ?_
              refine RS.call rfl (by rfl) ok81 (by rfl) (fun w ho => mixC ka.win.x kb.win.x tt g8 _ (cell1Own (t := 29) ho (by repeat (first | exact List.Mem.head _ | refine List.Mem.tail _ ?_)))) ?_
              rintro _ _ ⟨rfl, rfl⟩
              refine RS.nil ⟨(by repeat (first | exact List.Sublist.refl _ | exact List.nil_sublist _ | refine List.Sublist.cons_cons _ ?_ | refine List.Sublist.cons _ ?_ | exact Sbp.refl | exact Sbp.nil | refine Sbp.cons (by repeat (first | exact Rem.head | apply Rem.tail)) ?_ | exact Sbp.app | refine Sbp.skip ?_)), ?_⟩
              refine RT.one (i := 15) (by kernel_rfl) rfl rfl ?_
              refine RS.call rfl (by rfl) ok81 (by rfl) (fun w ho => mixC ka.win.y kb.win.y tt g8 _ (cell1Own (t := 29) ho (by repeat (first | exact List.Mem.head _ | refine List.Mem.tail _ ?_)))) ?_
              rintro _ _ ⟨rfl, rfl⟩
              refine RS.nil ⟨(by repeat (first | exact List.Sublist.refl _ | exact List.nil_sublist _ | refine List.Sublist.cons_cons _ ?_ | refine List.Sublist.cons _ ?_ | exact Sbp.refl | exact Sbp.nil | refine Sbp.cons (by repeat (first | exact Rem.head | apply Rem.tail)) ?_ | exact Sbp.app | refine Sbp.skip ?_)), ?_⟩
              refine RT.one (i := 21) (by kernel_rfl) rfl rfl ?_
              refine RS.call rfl (by rfl) ok81 (by rfl) (fun w ho => mixC ka.win.w kb.win.w tt g8 _ (cell1Own (t := 29) ho (by repeat (first | exact List.Mem.head _ | refine List.Mem.tail _ ?_)))) ?_
              rintro _ _ ⟨rfl, rfl⟩
              refine RS.nil ⟨(by repeat (first | exact List.Sublist.refl _ | exact List.nil_sublist _ | refine List.Sublist.cons_cons _ ?_ | refine List.Sublist.cons _ ?_ | exact Sbp.refl | exact Sbp.nil | refine Sbp.cons (by repeat (first | exact Rem.head | apply Rem.tail)) ?_ | exact Sbp.app | refine Sbp.skip ?_)), ?_⟩
              refine RT.one (i := 27) (by kernel_rfl) rfl rfl ?_
              refine RS.call rfl (by rfl) ok81 (by rfl) (fun w ho => mixC ka.win.h kb.win.h tt g8 _ (cell1Own (t := 29) ho (by repeat (first | exact List.Mem.head _ | refine List.Mem.tail _ ?_)))) ?_
              rintro _ _ ⟨rfl, rfl⟩
              refine RS.nil ⟨(by repeat (first | exact List.Sublist.refl _ | exact List.nil_sublist _ | refine List.Sublist.cons_cons _ ?_ | refine List.Sublist.cons _ ?_ | exact Sbp.refl | exact Sbp.nil | refine Sbp.cons (by repeat (first | exact Rem.head | apply Rem.tail)) ?_ | exact Sbp.app | refine Sbp.skip ?_)), ?_⟩
              refine RT.one (i := 33) (by kernel_rfl) rfl rfl ?_
              refine RS.call rfl (by rfl) ok81 (by rfl) (fun w ho => mixC ka.win.soft kb.win.soft tt g8 _ (cell1Own (t := 29) ho (by repeat (first | exact List.Mem.head _ | refine List.Mem.tail _ ?_)))) ?_
              rintro _ _ ⟨rfl, rfl⟩
              refine RS.nil ⟨(by repeat (first | exact List.Sublist.refl _ | exact List.nil_sublist _ | refine List.Sublist.cons_cons _ ?_ | refine List.Sublist.cons _ ?_ | exact Sbp.refl | exact Sbp.nil | refine Sbp.cons (by repeat (first | exact Rem.head | apply Rem.tail)) ?_ | exact Sbp.app | refine Sbp.skip ?_)), ?_⟩
              refine RT.takev (i := 34) rfl (by kernel_rfl) rfl (QO.build ty61 pl61 (by rfl)) (show _ = Value.agg #[iv ka.win.kind, flt (lerpV ka.win.x kb.win.x tt), flt (lerpV ka.win.y kb.win.y tt), flt (lerpV ka.win.w kb.win.w tt), flt (lerpV ka.win.h kb.win.h tt), flt (lerpV ka.win.soft kb.win.soft tt), .slice none 0 0, .bool ka.win.out] from rfl) ?_
              refine RT.tail (i := 36) (by kernel_rfl) rfl rfl ?_
              first | refine RS.storeB ty61 (by rfl) (by rfl) (by rfl) (by rfl) (by rfl) (by repeat (first | exact Upd.head | apply Upd.tail)) (by rfl) ?_ | refine RS.storeP ty61 (by rfl) (by rfl) (by rfl) (by rfl) (by rfl) (by repeat (first | exact Upd.head | apply Upd.tail)) (by rfl) ?_
              refine RS.nil ?_
              refine RT.done (by kernel_rfl) ?_
              refine cutQ_n (by intro t ht; repeat (first | with_reducible exact rfl | exact frame_puts ht (frame_mix ht) _ rfl | (refine frame_put rfl ht ?_) | (refine frame_puts ht ?_ _ rfl) | exact frame_mix ht | (refine frame_mix2 rfl ht ?_) | exact rfl)) ?_
              exact ⟨g12, trivial, (by repeat (first | exact kn_nil | refine kn_cons (by rfl) ?_)), (by repeat (first | exact List.Sublist.refl _ | exact List.nil_sublist _ | refine List.Sublist.cons_cons _ ?_ | refine List.Sublist.cons _ ?_ | exact Sbp.refl | exact Sbp.nil | refine Sbp.cons (by repeat (first | exact Rem.head | apply Rem.tail)) ?_ | exact Sbp.app | refine Sbp.skip ?_))⟩
          · intro g12 gj hz
            refine CS.seq ?_
            refine CS.seq ?_
            refine CS.region ?_
            refine RS.q rfl (QO.fieldAddr fo61_6 (by rfl)) ?_
            first | (refine RS.q rfl (QO.load ty59 (by rfl) (by repeat (first | exact List.Mem.head _ | refine List.Mem.tail _ ?_)) (by rfl)) ?_) | (refine RS.q rfl (QO.loadO ty59 (by rfl) (by assumption)) ?_) | (refine RS.q rfl (QO.load ty59 (by rfl) (by repeat (first | exact List.Mem.head _ | refine List.Mem.tail _ ?_)) (by assumption)) ?_)
            refine RS.q rfl (QO.lenS Try.underlying59 (by rfl)) ?_
            refine RS.q rfl (QO.move) ?_
            refine RS.nil ?_
            refine thenC_n ?_
            refine CS.block ?_
            refine CS.loop (X := Nat × Value × HL) (13 :: 14 :: 15 :: 16 :: 17 :: 125 :: 126 :: 127 :: 128 :: 129 :: 130 :: 131 :: 132 :: 133 :: 134 :: 135 :: 136 :: 137 :: 138 :: 139 :: 140 :: 141 :: 142 :: 143 :: 144 :: 145 :: 146 :: 147 :: 148 :: 149 :: 150 :: 151 :: 152 :: 153 :: 154 :: 155 :: 156 :: 157 :: 158 :: 159 :: 160 :: 161 :: 162 :: 163 :: 164 :: 165 :: 166 :: 167 :: 168 :: 169 :: 170 :: 171 :: 172 :: 173 :: 174 :: 175 :: 176 :: []) (fun z => [(125, iv (z.1 : Int))]) (fun z => ⟨g12, 61, [iv ka.win.kind, flt (lerpV ka.win.x kb.win.x tt), flt (lerpV ka.win.y kb.win.y tt), flt (lerpV ka.win.w kb.win.w tt), flt (lerpV ka.win.h kb.win.h tt), flt (lerpV ka.win.soft kb.win.soft tt), z.2.1, .bool ka.win.out]⟩ :: ⟨g11, 61, winC kb.win kb.A kb.c⟩ :: ⟨g10, 61, winC ka.win ka.A ka.c⟩ :: ⟨g8, 29, [flt tt]⟩ :: ⟨g7, 67, kfC kb⟩ :: ⟨g6, 67, kfC ka⟩ :: ⟨g4, 61, [iv 0, flt 0, flt 0, flt 0, flt 0, flt 0, .slice none 0 0, .bool false]⟩ :: ⟨g3, 3, [iv frame]⟩ :: z.2.2) (fun z => z.1 ≤ ka.win.pts.length ∧ Row 31 2 z.2.1 z.1 (psC (mixG ka.win.pts kb.win.pts tt z.1)) z.2.2) (fun z => ka.win.pts.length - z.1) (0, .slice none 0 0, []) ⟨Nat.zero_le _, .nil⟩ ?_ ?_ ?_
            · exact (by repeat (first | exact kn_nil | refine kn_cons (by rfl) ?_))
            · exact (by repeat (first | exact List.Sublist.refl _ | exact List.nil_sublist _ | refine List.Sublist.cons_cons _ ?_ | refine List.Sublist.cons _ ?_ | exact Sbp.refl | exact Sbp.nil | refine Sbp.cons (by repeat (first | exact Rem.head | apply Rem.tail)) ?_ | exact Sbp.app | refine Sbp.skip ?_))
            · intro z gj19 hz
              obtain ⟨k, vo, Hr⟩ := z
              obtain ⟨hk, hrow⟩ := hz
              simp only at hk hrow
              show CS _ _ _ _ _ (puts (mix _ _ _) [(125, iv (k : Int))]) (⟨g12, 61, [iv ka.win.kind, flt (lerpV ka.win.x kb.win.x tt), flt (lerpV ka.win.y kb.win.y tt), flt (lerpV ka.win.w kb.win.w tt), flt (lerpV ka.win.h kb.win.h tt), flt (lerpV ka.win.soft kb.win.soft tt), vo, .bool ka.win.out]⟩ :: ⟨g11, 61, winC kb.win kb.A kb.c⟩ :: ⟨g10, 61, winC ka.win ka.A ka.c⟩ :: ⟨g8, 29, [flt tt]⟩ :: ⟨g7, 67, kfC kb⟩ :: ⟨g6, 67, kfC ka⟩ :: ⟨g4, 61, [iv 0, flt 0, flt 0, flt 0, flt 0, flt 0, .slice none 0 0, .bool false]⟩ :: ⟨g3, 3, [iv frame]⟩ :: Hr)
              refine CS.seq ?_
              refine CS.region ?_
              refine RS.q rfl (QO.lss (by rfl) (by rfl)) ?_
              refine RS.nil ?_
              refine thenC_n ?_
              refine CS.seq ?_
              refine CS.cond (by rfl) (fun hb2 => ?_) (fun hb2 => ?_)
              · have hb2p := of_decide_eq_true hb2
                refine CS.skip ?_
                refine thenC_n ?_
                refine CS.seq ?_
                refine CS.block ?_
                refine CS.seq ?_
                refine CS.region ?_
                refine RS.q rfl (QO.move) ?_
                refine RS.q rfl (QO.assign) ?_
                refine RS.nil ?_
                refine thenC_n ?_
                refine CS.seq ?_
                refine CS.draw 22 rfl (by kernel_rfl) (by kernel_rfl) ?_
                refine RT.take (i := 0) rfl (by kernel_rfl) rfl (QO.move) ?_
                refine RT.take (i := 1) rfl (by kernel_rfl) rfl (QO.fieldAddr fo61_6 (by rfl)) ?_
                have hxa := hoka.1.isS (show 0 < ka.win.pts.length by omega)
                obtain ⟨bAA, oAA, hA⟩ := hxa
                have hxa0 := PS.cell_ hoka.1 hA (i := k) (j := 0) (q := oAA + (k : Int).toNat * 2 + 0) (by omega) (by omega) rfl
                have hxa1 := PS.cell_ hoka.1 hA (i := k) (j := 1) (q := oAA + (k : Int).toNat * 2 + 1) (by omega) (by omega) rfl
                have hxb := hokb.1.isS (show 0 < kb.win.pts.length by omega)
                obtain ⟨bBB, oBB, hB⟩ := hxb
                have hxb0 := PS.cell_ hokb.1 hB (i := k) (j := 0) (q := oBB + (k : Int).toNat * 2 + 0) (by omega) (by omega) rfl
                have hxb1 := PS.cell_ hokb.1 hB (i := k) (j := 1) (q := oBB + (k : Int).toNat * 2 + 1) (by omega) (by omega) rfl
                first | (refine RT.take (i := 2) rfl (by kernel_rfl) rfl (QO.load ty59 (by rfl) (by repeat (first | exact List.Mem.head _ | refine List.Mem.tail _ ?_)) (by rfl)) ?_) | (refine RT.take (i := 2) rfl (by kernel_rfl) rfl (QO.loadO ty59 (by rfl) (by assumption)) ?_) | (refine RT.take (i := 2) rfl (by kernel_rfl) rfl (QO.load ty59 (by rfl) (by repeat (first | exact List.Mem.head _ | refine List.Mem.tail _ ?_)) (by assumption)) ?_)
                refine RT.take (i := 3) rfl (by kernel_rfl) rfl (QO.move) ?_
                refine RT.take (i := 4) rfl (by kernel_rfl) rfl (QO.idx Try.underlying59 ty31 (congrArg (fun A => Value.slice A ka.win.pts.length ka.c) hA) (by rfl) (by omega) (by omega)) ?_
                refine RT.take (i := 5) rfl (by kernel_rfl) rfl (QO.fieldAddr fo31_0 (by rfl)) ?_
                refine RT.take (i := 6) rfl (by kernel_rfl) rfl (QO.loadO ty3 (by rfl) hxa0) ?_
                refine RT.take (i := 8) rfl (by kernel_rfl) rfl (QO.fieldAddr fo61_6 (by rfl)) ?_
                first | (refine RT.take (i := 9) rfl (by kernel_rfl) rfl (QO.load ty59 (by rfl) (by repeat (first | exact List.Mem.head _ | refine List.Mem.tail _ ?_)) (by rfl)) ?_) | (refine RT.take (i := 9) rfl (by kernel_rfl) rfl (QO.loadO ty59 (by rfl) (by assumption)) ?_) | (refine RT.take (i := 9) rfl (by kernel_rfl) rfl (QO.load ty59 (by rfl) (by repeat (first | exact List.Mem.head _ | refine List.Mem.tail _ ?_)) (by assumption)) ?_)
                refine RT.take (i := 10) rfl (by kernel_rfl) rfl (QO.move) ?_
                refine RT.take (i := 11) rfl (by kernel_rfl) rfl (QO.idx Try.underlying59 ty31 (congrArg (fun A => Value.slice A kb.win.pts.length kb.c) hB) (by rfl) (by omega) (by omega)) ?_
                refine RT.take (i := 12) rfl (by kernel_rfl) rfl (QO.fieldAddr fo31_0 (by rfl)) ?_
                refine RT.take (i := 13) rfl (by kernel_rfl) rfl (QO.loadO ty3 (by rfl) hxb0) ?_
                refine RT.one (i := 7) (by kernel_rfl) rfl rfl ?_
                refine RS.call rfl (by rfl) ok79 (by rfl) (fun w ho => rconvW _ _) ?_
                rintro _ _ ⟨rfl, rfl⟩
                refine RS.nil ⟨(by repeat (first | exact List.Sublist.refl _ | exact List.nil_sublist _ | refine List.Sublist.cons_cons _ ?_ | refine List.Sublist.cons _ ?_ | exact Sbp.refl | exact Sbp.nil | refine Sbp.cons (by repeat (first | exact Rem.head | apply Rem.tail)) ?_ | exact Sbp.app | refine Sbp.skip ?_)), ?_⟩
                refine RT.one (i := 14) (by kernel_rfl) rfl rfl ?_
                refine RS.call rfl (by rfl) ok79 (by rfl) (fun w ho => rconvW _ _) ?_
                rintro _ _ ⟨rfl, rfl⟩
                refine RS.nil ⟨(by repeat (first | exact List.Sublist.refl _ | exact List.nil_sublist _ | refine List.Sublist.cons_cons _ ?_ | refine List.Sublist.cons _ ?_ | exact Sbp.refl | exact Sbp.nil | refine Sbp.cons (by repeat (first | exact Rem.head | apply Rem.tail)) ?_ | exact Sbp.app | refine Sbp.skip ?_)), ?_⟩
                refine RT.one (i := 15) (by kernel_rfl) rfl rfl ?_
                refine RS.call rfl (by rfl) ok81 (by rfl) (fun w ho => mixC (cvF (ka.win.pts.getD k (0, 0)).1) (cvF (kb.win.pts.getD k (0, 0)).1) tt g8 _ (cell1Own (t := 29) ho (by repeat (first | exact List.Mem.head _ | refine List.Mem.tail _ ?_)))) ?_
                rintro _ _ ⟨rfl, rfl⟩
                refine RS.nil ⟨(by repeat (first | exact List.Sublist.refl _ | exact List.nil_sublist _ | refine List.Sublist.cons_cons _ ?_ | refine List.Sublist.cons _ ?_ | exact Sbp.refl | exact Sbp.nil | refine Sbp.cons (by repeat (first | exact Rem.head | apply Rem.tail)) ?_ | exact Sbp.app | refine Sbp.skip ?_)), ?_⟩
                refine RT.one (i := 16) (by kernel_rfl) rfl rfl ?_
                refine RS.call rfl (by rfl) ok84 (by rfl) (fun w ho => nearOf _ _) ?_
                rintro _ _ ⟨q145, rfl, rfl⟩
                refine RS.nil ⟨(by repeat (first | exact List.Sublist.refl _ | exact List.nil_sublist _ | refine List.Sublist.cons_cons _ ?_ | refine List.Sublist.cons _ ?_ | exact Sbp.refl | exact Sbp.nil | refine Sbp.cons (by repeat (first | exact Rem.head | apply Rem.tail)) ?_ | exact Sbp.app | refine Sbp.skip ?_)), ?_⟩
                refine RT.take (i := 17) rfl (by kernel_rfl) rfl (QO.move) ?_
                refine RT.take (i := 18) rfl (by kernel_rfl) rfl (QO.extract (by rfl) (by rfl)) ?_
                refine RT.take (i := 19) rfl (by kernel_rfl) rfl (QO.extract (by rfl) (by rfl)) ?_
                refine RT.take (i := 20) rfl (by kernel_rfl) rfl (QO.assign) ?_
                refine RT.take (i := 21) rfl (by kernel_rfl) rfl (QO.assign) ?_
                refine RT.done (by kernel_rfl) ?_
                refine thenC_n ?_
                refine CS.seq ?_
                refine CS.draw 22 rfl (by kernel_rfl) (by kernel_rfl) ?_
                refine RT.take (i := 0) rfl (by kernel_rfl) rfl (QO.move) ?_
                refine RT.take (i := 1) rfl (by kernel_rfl) rfl (QO.fieldAddr fo61_6 (by rfl)) ?_
                first | (refine RT.take (i := 2) rfl (by kernel_rfl) rfl (QO.load ty59 (by rfl) (by repeat (first | exact List.Mem.head _ | refine List.Mem.tail _ ?_)) (by rfl)) ?_) | (refine RT.take (i := 2) rfl (by kernel_rfl) rfl (QO.loadO ty59 (by rfl) (by assumption)) ?_) | (refine RT.take (i := 2) rfl (by kernel_rfl) rfl (QO.load ty59 (by rfl) (by repeat (first | exact List.Mem.head _ | refine List.Mem.tail _ ?_)) (by assumption)) ?_)
                refine RT.take (i := 3) rfl (by kernel_rfl) rfl (QO.move) ?_
                refine RT.take (i := 4) rfl (by kernel_rfl) rfl (QO.idx Try.underlying59 ty31 (congrArg (fun A => Value.slice A ka.win.pts.length ka.c) hA) (by rfl) (by omega) (by omega)) ?_
                refine RT.take (i := 5) rfl (by kernel_rfl) rfl (QO.fieldAddr fo31_1 (by rfl)) ?_
                refine RT.take (i := 6) rfl (by kernel_rfl) rfl (QO.loadO ty3 (by rfl) hxa1) ?_
                refine RT.take (i := 8) rfl (by kernel_rfl) rfl (QO.fieldAddr fo61_6 (by rfl)) ?_
                first | (refine RT.take (i := 9) rfl (by kernel_rfl) rfl (QO.load ty59 (by rfl) (by repeat (first | exact List.Mem.head _ | refine List.Mem.tail _ ?_)) (by rfl)) ?_) | (refine RT.take (i := 9) rfl (by kernel_rfl) rfl (QO.loadO ty59 (by rfl) (by assumption)) ?_) | (refine RT.take (i := 9) rfl (by kernel_rfl) rfl (QO.load ty59 (by rfl) (by repeat (first | exact List.Mem.head _ | refine List.Mem.tail _ ?_)) (by assumption)) ?_)
                refine RT.take (i := 10) rfl (by kernel_rfl) rfl (QO.move) ?_
                refine RT.take (i := 11) rfl (by kernel_rfl) rfl (QO.idx Try.underlying59 ty31 (congrArg (fun A => Value.slice A kb.win.pts.length kb.c) hB) (by rfl) (by omega) (by omega)) ?_
                refine RT.take (i := 12) rfl (by kernel_rfl) rfl (QO.fieldAddr fo31_1 (by rfl)) ?_
                refine RT.take (i := 13) rfl (by kernel_rfl) rfl (QO.loadO ty3 (by rfl) hxb1) ?_
                refine RT.one (i := 7) (by kernel_rfl) rfl rfl ?_
                refine RS.call rfl (by rfl) ok79 (by rfl) (fun w ho => rconvW _ _) ?_
                rintro _ _ ⟨rfl, rfl⟩
                refine RS.nil ⟨(by repeat (first | exact List.Sublist.refl _ | exact List.nil_sublist _ | refine List.Sublist.cons_cons _ ?_ | refine List.Sublist.cons _ ?_ | exact Sbp.refl | exact Sbp.nil | refine Sbp.cons (by repeat (first | exact Rem.head | apply Rem.tail)) ?_ | exact Sbp.app | refine Sbp.skip ?_)), ?_⟩
                refine RT.one (i := 14) (by kernel_rfl) rfl rfl ?_
                refine RS.call rfl (by rfl) ok79 (by rfl) (fun w ho => rconvW _ _) ?_
                rintro _ _ ⟨rfl, rfl⟩
                refine RS.nil ⟨(by repeat (first | exact List.Sublist.refl _ | exact List.nil_sublist _ | refine List.Sublist.cons_cons _ ?_ | refine List.Sublist.cons _ ?_ | exact Sbp.refl | exact Sbp.nil | refine Sbp.cons (by repeat (first | exact Rem.head | apply Rem.tail)) ?_ | exact Sbp.app | refine Sbp.skip ?_)), ?_⟩
                refine RT.one (i := 15) (by kernel_rfl) rfl rfl ?_
                refine RS.call rfl (by rfl) ok81 (by rfl) (fun w ho => mixC (cvF (ka.win.pts.getD k (0, 0)).2) (cvF (kb.win.pts.getD k (0, 0)).2) tt g8 _ (cell1Own (t := 29) ho (by repeat (first | exact List.Mem.head _ | refine List.Mem.tail _ ?_)))) ?_
                rintro _ _ ⟨rfl, rfl⟩
                refine RS.nil ⟨(by repeat (first | exact List.Sublist.refl _ | exact List.nil_sublist _ | refine List.Sublist.cons_cons _ ?_ | refine List.Sublist.cons _ ?_ | exact Sbp.refl | exact Sbp.nil | refine Sbp.cons (by repeat (first | exact Rem.head | apply Rem.tail)) ?_ | exact Sbp.app | refine Sbp.skip ?_)), ?_⟩
                refine RT.one (i := 16) (by kernel_rfl) rfl rfl ?_
                refine RS.call rfl (by rfl) ok84 (by rfl) (fun w ho => nearOf _ _) ?_
                rintro _ _ ⟨q165, rfl, rfl⟩
                refine RS.nil ⟨(by repeat (first | exact List.Sublist.refl _ | exact List.nil_sublist _ | refine List.Sublist.cons_cons _ ?_ | refine List.Sublist.cons _ ?_ | exact Sbp.refl | exact Sbp.nil | refine Sbp.cons (by repeat (first | exact Rem.head | apply Rem.tail)) ?_ | exact Sbp.app | refine Sbp.skip ?_)), ?_⟩
                refine RT.take (i := 17) rfl (by kernel_rfl) rfl (QO.move) ?_
                refine RT.take (i := 18) rfl (by kernel_rfl) rfl (QO.extract (by rfl) (by rfl)) ?_
                refine RT.take (i := 19) rfl (by kernel_rfl) rfl (QO.extract (by rfl) (by rfl)) ?_
                refine RT.take (i := 20) rfl (by kernel_rfl) rfl (QO.assign) ?_
                refine RT.take (i := 21) rfl (by kernel_rfl) rfl (QO.assign) ?_
                refine RT.done (by kernel_rfl) ?_
                refine thenC_n ?_
                refine CS.region ?_
                refine RS.q rfl (QO.fieldAddr fo61_6 (by rfl)) ?_
                first | (refine RS.q rfl (QO.load ty59 (by rfl) (by repeat (first | exact List.Mem.head _ | refine List.Mem.tail _ ?_)) (by rfl)) ?_) | (refine RS.q rfl (QO.loadO ty59 (by rfl) (by assumption)) ?_) | (refine RS.q rfl (QO.load ty59 (by rfl) (by repeat (first | exact List.Mem.head _ | refine List.Mem.tail _ ?_)) (by assumption)) ?_)
                refine RS.q rfl (QO.move) ?_
                refine RS.q rfl (QO.move) ?_
                refine RS.q rfl (QO.build ty31 pl31 (by rfl)) ?_
                refine RS.buildSlice rfl Try.underlying59 ty31 (by decide) (by decide) (by rfl) (by rfl) ?_
                intro g173
                refine RS.appendRow rfl Try.underlying59 ty31 (by rfl) hrow (by repeat (first | exact Suf.base | apply Suf.cons)) (by rfl) (Src.blk (by repeat (first | exact List.Mem.head _ | refine List.Mem.tail _ ?_))) (by rfl) (by rfl) (by decide) (by decide) (by unfold maxLen; omega) (by omega) ?_
                intro v174 H174 hrow174
                have hxr := hrow174.slice
                obtain ⟨A2, c2, hu2, _, _⟩ := hxr
                subst hu2
                refine RS.q rfl (QO.fieldAddr fo61_6 (by rfl)) ?_
                refine RS.store1 ty59 rfl (by rfl) (by rfl) (by rfl) (by repeat (first | exact Upd.head | apply Upd.tail)) (by first | (simp; done) | (simp; omega) | omega) ?_
                refine RS.nil ?_
                refine blockC_n ?_
                refine thenC_n ?_
                refine CS.region ?_
                first | (refine RS.q rfl (QO.add (by rfl) (by rfl) (by omega) (by omega)) ?_) | (refine RS.q rfl (QO.ibin (by rfl) (by rfl) trivial) ?_)
                refine RS.q rfl (QO.move) ?_
                refine RS.nil ?_
                refine loopQ_n (by intro t ht; repeat (first | with_reducible exact rfl | exact frame_puts ht (frame_mix ht) _ rfl | (refine frame_put rfl ht ?_) | (refine frame_puts ht ?_ _ rfl) | exact frame_mix ht | (refine frame_mix2 rfl ht ?_) | exact rfl)) ?_
                exact ⟨(k + 1, .slice A2 (k + 1) c2, H174), ⟨by show k + 1 ≤ ka.win.pts.length; omega, by show Row 31 2 (.slice A2 (k + 1) c2) (k + 1) (psC (mixG ka.win.pts kb.win.pts tt (k + 1))) H174; rw [mixG_suc]; exact hrow174⟩, by show ka.win.pts.length - (k + 1) < ka.win.pts.length - k; omega, (by repeat (first | exact kn_nil | refine kn_cons (by rfl) ?_)), (by repeat (first | exact List.Sublist.refl _ | exact List.nil_sublist _ | refine List.Sublist.cons_cons _ ?_ | refine List.Sublist.cons _ ?_ | exact Sbp.refl | exact Sbp.nil | refine Sbp.cons (by repeat (first | exact Rem.head | apply Rem.tail)) ?_ | exact Sbp.app | refine Sbp.skip ?_))⟩
              · have hb2p := of_decide_eq_false hb2
                refine CS.exit ?_
                refine thenC_x ?_
                refine loopQ_x ?_
                refine blockC_x ?_
                refine thenC_n ?_
                refine CS.seq ?_
                refine CS.region ?_
                have hkl : k = ka.win.pts.length := by omega
                have hro := rowOwn hrow (mixG_len ..)
                obtain ⟨A2, c2, hv, hO⟩ := hro
                subst hv
                first | (refine RS.q rfl (QO.loadB ty61 (by rfl) (by repeat (first | exact List.Mem.head _ | refine List.Mem.tail _ ?_)) (by rfl)) ?_) | (refine RS.q rfl (QO.loadA ty61 (by rfl) (by repeat (first | exact List.Mem.head _ | refine List.Mem.tail _ ?_)) (by rfl) (by rfl)) ?_) | (refine RS.q rfl (QO.loadOA ty61 (by rfl) (by assumption) (by rfl)) ?_)
                first | refine RS.storeB ty61 (by rfl) (by rfl) (by rfl) (by rfl) (by rfl) (by repeat (first | exact Upd.head | apply Upd.tail)) (by rfl) ?_ | refine RS.storeP ty61 (by rfl) (by rfl) (by rfl) (by rfl) (by rfl) (by repeat (first | exact Upd.head | apply Upd.tail)) (by rfl) ?_
                refine RS.nil ?_
                refine thenC_n ?_
                refine CS.ret ?_
                refine retQ.mk (H' := Hr) (.inr rfl) (RVs.cellA ty61 (by rfl) (by repeat (first | exact List.Mem.head _ | refine List.Mem.tail _ ?_)) (by rfl) RVs.nil) (by repeat (first | exact List.Sublist.refl _ | exact List.nil_sublist _ | refine List.Sublist.cons_cons _ ?_ | refine List.Sublist.cons _ ?_ | exact Sbp.refl | exact Sbp.nil | refine Sbp.cons (by repeat (first | exact Rem.head | apply Rem.tail)) ?_ | exact Sbp.app | refine Sbp.skip ?_)) ?_
                have hbm := betw_m hc (by omega) (by omega) hka hkb htt
                exact ⟨A2, c2, mixEndV rfl hbm hkl, .inl (ownMixG hbm hkl hO)⟩

theorem betweenFrames (A : Option Addr) (c : Nat) (l : List KF) (frame : Int) (W : World) (hA : KS W A l) (he : frE l = 0) : Fn_ Try.prog 27 #[.slice A l.length c, iv frame] W (fun v H => ∃ A2 c2, v = wV (betw l frame) A2 c2 ∧ PtsOf l A2 (betw l frame).pts H) := by
  rcases Nat.eq_zero_or_pos (cntK frame l) with h | h
  · exact bfA A c l frame W hA he h
  · rcases Nat.lt_or_ge (cntK frame l) l.length with h2 | h2
    · by_cases hf : (l.getD (cntK frame l - 1) default).frame = frame
      · exact bfC A c l frame W hA he _ rfl h h2 hf
      · exact bfD A c l frame W hA he _ rfl h h2 hf
    · exact bfB A c l frame W hA he (Nat.le_antisymm (cntK_le ..) h2)

end Go.Proofs.Ytapcgokcfmklbaa

namespace Go.Proofs.Ytapcgokcfmklbaa
open Go Go.RowKit

theorem betw_len {l : List KF} {f : Int} (h : frE l = 0) : (betw l f).pts.length ≤ maxLen := by
  obtain ⟨h1, h2, h3⟩ := frE_ok h
  have key : ∀ i, i < l.length → (l.getD i default).win.pts.length ≤ maxLen := fun i hi => by
    have h4 := frE1_ok (h3 i hi) rfl
    have h5 := (winE_pts h4.2.2.2.2.1).1
    unfold maxLen; omega
  have hle := cntK_le f l
  by_cases a1 : cntK f l = 0
  · rw [betw_0 a1]; exact key 0 (by omega)
  · by_cases a2 : cntK f l = l.length ∨ (l.getD (cntK f l - 1) default).frame = f
    · rw [betw_1 rfl a1 a2]; exact key _ (by omega)
    · rw [betw_2 rfl a1 a2]
      unfold mixW
      simp only [mixPs_len]
      exact key _ (by omega)
theorem movR_len {u : Win} {dx dy : Int} (h : u.pts.length ≤ maxLen) : (movR u dx dy).pts.length ≤ maxLen := by
  unfold movR
  split
  · unfold movW
    simp only [movPs_len]
    exact h
  · exact Nat.zero_le _
theorem betw_kf {l : List KF} (h : frE l = 0) {i : Nat} (hi : i < l.length) {k : KF} (hk : l.getD i default = k) : betw l k.frame = k.win := by
  subst hk; exact betw_at h hi
end Go.Proofs.Ytapcgokcfmklbaa

namespace Go.Proofs.Ytapcgokcfmklbaa
open Go Go.Proofs Go.RowKit

theorem ok23 : callOK Try.prog 23 = true := by kernel_rfl
theorem ok24 : callOK Try.prog 24 = true := by kernel_rfl
theorem ok26 : callOK Try.prog 26 = true := by kernel_rfl
theorem ok27 : callOK Try.prog 27 = true := by kernel_rfl
theorem ok28 : callOK Try.prog 28 = true := by kernel_rfl
theorem ok29 : callOK Try.prog 29 = true := by kernel_rfl

theorem betweenAt (A : Option Addr) (c : Nat) (l : List KF) (frame : Int) (u : Win) (W : World) (hA : KS W A l) (hm : l.length ≤ maxLen) (he : frE l = 0) (hu : betw l frame = u) : Fn_ Try.prog 24 #[.slice A l.length c, iv frame] W (fun v H => ∃ A2 c2, v = .tuple #[.agg #[iv u.kind, flt u.x, flt u.y, flt u.w, flt u.h, flt u.soft, .slice A2 u.pts.length c2, .bool u.out], iv 0] ∧ OwnP A2 u.pts H) := by
  subst hu; exact betweenOk A c l frame W hA hm he
theorem movedN (r u : Win) (A : Option Addr) (c : Nat) (dx dy e : Int) (W : World) (hA : PS W A u.pts) (hm : u.pts.length ≤ maxLen) (hr : movR u dx dy = r) (he : movE u dx dy = e) : Fn_ Try.prog 28 #[.agg #[iv u.kind, flt u.x, flt u.y, flt u.w, flt u.h, flt u.soft, .slice A u.pts.length c, .bool u.out], iv dx, iv dy] W (fun v H => ∃ A2 c2, v = .tuple #[.agg #[iv r.kind, flt r.x, flt r.y, flt r.w, flt r.h, flt r.soft, .slice A2 r.pts.length c2, .bool r.out], iv e] ∧ OwnP A2 r.pts H) := by
  subst hr he; exact moved_ u A c dx dy W hA hm
theorem rmovedN (r u : Win) (A : Option Addr) (c : Nat) (dx dy e : Int) (W : World) (hA : PS W A u.pts) (hm : u.pts.length ≤ maxLen) (hr : movR u dx dy = r) (he : movE u dx dy = e) : Fn_ Try.prog 29 #[.agg #[iv u.kind, flt u.x, flt u.y, flt u.w, flt u.h, flt u.soft, .slice A u.pts.length c, .bool u.out], iv dx, iv dy] W (fun v H => ∃ A2 c2, v = .tuple #[.agg #[iv r.kind, flt r.x, flt r.y, flt r.w, flt r.h, flt r.soft, .slice A2 r.pts.length c2, .bool r.out], iv e] ∧ OwnP A2 r.pts H) := by
  subst hr he; exact rmoved_ u A c dx dy W hA hm
theorem betweenFramesN (A : Option Addr) (c : Nat) (l : List KF) (frame : Int) (u : Win) (W : World) (hA : KS W A l) (he : frE l = 0) (hu : betw l frame = u) : Fn_ Try.prog 27 #[.slice A l.length c, iv frame] W (fun v H => ∃ A2 c2, v = .agg #[iv u.kind, flt u.x, flt u.y, flt u.w, flt u.h, flt u.soft, .slice A2 u.pts.length c2, .bool u.out] ∧ PtsOf l A2 u.pts H) := by
  subst hu; exact betweenFrames A c l frame W hA he

set_option maxHeartbeats 4000000 in
set_option maxRecDepth 100000 in
theorem kfBad (A : Option Addr) (c : Nat) (l : List KF) (frame dx dy : Int) (W : World) (hA : KS W A l) (hc : l.length ≤ c) (hm : c ≤ maxLen) (he : frE l ≠ 0) : Fn_ Try.prog 5 #[.slice A l.length c, iv frame, iv dx, iv dy] W (fun v H => v = .bool true ∧ H = []) := by
  unfold maxLen at hm
  have hml : l.length ≤ maxLen := by unfold maxLen; omega
  obtain ⟨mm, hmm⟩ : ∃ q, (min (l.length : Int) 3).toNat = q := ⟨_, rfl⟩
  have hmm2 : mm ≤ l.length := by omega
  refine Fn_.intro Try.func5 rfl rfl (by rfl) ?_
  refine CS.seq ?_
  refine CS.region ?_
  refine RS.q rfl (QO.assign) ?_
  refine RS.nil ?_
  refine thenC_n ?_
  refine CS.seq ?_
  refine CS.seq ?_
  refine CS.region ?_
  refine RS.call rfl (by rfl) ok9 (by rfl) (fun w ho => landed _) ?_
  rintro _ _ ⟨rfl, rfl⟩
  refine RS.qv rfl (QO.not (by rfl)) (congrArg Value.bool (show (!true) = false from rfl)) ?_
  refine RS.nil ?_
  refine thenC_n ?_
  refine CS.condF (by rfl) rfl ?_
  refine CS.skip ?_
  refine thenC_n ?_
  refine CS.seq ?_
  refine CS.region ?_
  refine RS.q rfl (QO.move) ?_
  refine RS.call rfl (by rfl) ok23 (by rfl) (fun w ho => framesError A c l _ (hA.own ho) hml) ?_
  rintro _ _ ⟨rfl, rfl⟩
  refine RS.q rfl (QO.assign) ?_
  refine RS.nil ?_
  refine thenC_n ?_
  refine CS.seq ?_
  refine CS.region ?_
  refine RS.q rfl (QO.move) ?_
  refine RS.q rfl (QO.move) ?_
  refine RS.call rfl (by rfl) ok24 (by rfl) (fun w ho => betweenBad A c l frame _ (hA.own ho) hml he) ?_
  rintro _ _ ⟨A2, c2, rfl, rfl⟩
  refine RS.q rfl (QO.move) ?_
  refine RS.qv rfl (QO.extract (by rfl) (by rfl)) (show _ = .agg #[iv zeroW.kind, flt zeroW.x, flt zeroW.y, flt zeroW.w, flt zeroW.h, flt zeroW.soft, .slice A2 zeroW.pts.length c2, .bool zeroW.out] from rfl) ?_
  refine RS.q rfl (QO.extract (by rfl) (by rfl)) ?_
  refine RS.alloc rfl ty61 ?_
  intro g10
  first | refine RS.storeB ty61 (by rfl) (by rfl) (by rfl) (by rfl) (by rfl) (by repeat (first | exact Upd.head | apply Upd.tail)) (by rfl) ?_ | refine RS.storeP ty61 (by rfl) (by rfl) (by rfl) (by rfl) (by rfl) (by repeat (first | exact Upd.head | apply Upd.tail)) (by rfl) ?_
  refine RS.q rfl (QO.assign) ?_
  refine RS.nil ?_
  refine thenC_n ?_
  refine CS.seq ?_
  refine CS.seq ?_
  refine CS.region ?_
  refine RS.q rfl (QO.move) ?_
  refine RS.call rfl (by rfl) ok25 (by rfl) (fun w ho => checkFrames A c l _ (hA.own ho) hml) ?_
  rintro _ _ ⟨rfl, rfl⟩
  refine RS.q rfl (QO.move) ?_
  refine RS.qv rfl (QO.neq (by rfl) (by rfl)) (congrArg Value.bool (bne_self_eq_false _)) ?_
  refine RS.q rfl (QO.move) ?_
  refine RS.on (dj := 36) rfl (congrArg Value.bool rfl) ?_
  refine RS.q rfl (QO.move) ?_
  refine RS.on (dj := 36) rfl (congrArg Value.bool rfl) ?_
  refine RS.q rfl (QO.move) ?_
  refine RS.on (dj := 36) rfl (congrArg Value.bool rfl) ?_
  refine RS.qv rfl (QO.neq (by rfl) (by rfl)) (congrArg Value.bool (bne_self_eq_false _)) ?_
  refine RS.q rfl (QO.pickF (by rfl) rfl (by rfl)) ?_
  refine RS.nil ?_
  refine thenC_n ?_
  refine CS.condF (by rfl) rfl ?_
  refine CS.skip ?_
  refine thenC_n ?_
  refine CS.cut (X := Unit) (8 :: 13 :: 14 :: 15 :: 41 :: 42 :: 43 :: 44 :: 45 :: 46 :: 47 :: 48 :: 49 :: 50 :: 51 :: 52 :: 53 :: 54 :: 55 :: 56 :: 57 :: 58 :: 59 :: 60 :: 61 :: 62 :: 63 :: 64 :: 65 :: 66 :: 67 :: 68 :: 69 :: 70 :: 71 :: 72 :: 73 :: 74 :: 75 :: []) (fun z => []) (fun z => []) (fun z => True) ?_ ?_
  · refine CS.seq ?_
    refine CS.region ?_
    refine RS.q rfl (QO.move) ?_
    refine RS.qv rfl (QO.neq (by rfl) (by rfl)) (congrArg Value.bool (show (frE l != 0) = true from bne_iff_ne.2 he)) ?_
    refine RS.nil ?_
    refine thenC_n ?_
    refine CS.condT (by rfl) rfl ?_
    refine CS.seq ?_
    refine CS.region ?_
    first | (refine RS.q rfl (QO.loadB ty61 (by rfl) (by repeat (first | exact List.Mem.head _ | refine List.Mem.tail _ ?_)) (by rfl)) ?_) | (refine RS.q rfl (QO.loadA ty61 (by rfl) (by repeat (first | exact List.Mem.head _ | refine List.Mem.tail _ ?_)) (by rfl) (by rfl)) ?_) | (refine RS.q rfl (QO.loadOA ty61 (by rfl) (by assumption) (by rfl)) ?_)
    refine RS.q rfl (QO.build ty61 pl61 (by rfl)) ?_
    refine RS.call rfl (by rfl) ok26 (by rfl) (fun w ho => sameWin zeroW A2 none c2 0 _ PS.nil PS.nil (Nat.zero_le _)) ?_
    rintro _ _ ⟨rfl, rfl⟩
    refine RS.qv rfl (QO.not (by rfl)) (congrArg Value.bool (show (!true) = false from rfl)) ?_
    refine RS.nil ?_
    refine thenC_n ?_
    refine CS.condF (by rfl) rfl ?_
    refine CS.skip ?_
    refine cutQ_n (by intro t ht; repeat (first | with_reducible exact rfl | exact frame_puts ht (frame_mix ht) _ rfl | (refine frame_put rfl ht ?_) | (refine frame_puts ht ?_ _ rfl) | exact frame_mix ht | (refine frame_mix2 rfl ht ?_) | exact rfl)) ?_
    exact ⟨(), trivial, (by repeat (first | exact kn_nil | refine kn_cons (by rfl) ?_)), (by repeat (first | exact List.Sublist.refl _ | exact List.nil_sublist _ | refine List.Sublist.cons_cons _ ?_ | refine List.Sublist.cons _ ?_ | exact Sbp.refl | exact Sbp.nil | refine Sbp.cons (by repeat (first | exact Rem.head | apply Rem.tail)) ?_ | exact Sbp.app | refine Sbp.skip ?_ | exact List.sublist_append_left _ _ | exact List.sublist_append_right _ _))⟩
  · intro z gj hz
    refine CS.seq ?_
    refine CS.seq ?_
    refine CS.region ?_
    refine RS.q rfl (QO.move) ?_
    refine RS.q rfl (QO.move) ?_
    refine RS.q rfl (QO.lenS Try.underlying57 (by rfl)) ?_
    refine RS.q rfl (QO.min2 (by rfl) (by rfl)) ?_
    refine RS.qv rfl (QO.cutHi Try.underlying57 ty67 (by rfl) (by rfl) (by omega) (by omega)) (congrArg (fun n => Value.slice A n c) hmm) ?_
    refine RS.q rfl (QO.lenS Try.underlying57 (by rfl)) ?_
    refine RS.q rfl (QO.move) ?_
    refine RS.nil ?_
    refine thenC_n ?_
    refine CS.block ?_
    refine CS.loop (X := Nat) (8 :: 17 :: 18 :: 19 :: 20 :: 21 :: 82 :: 83 :: 84 :: 85 :: 86 :: 87 :: 88 :: 89 :: 90 :: 91 :: 92 :: 93 :: 94 :: 95 :: 96 :: 97 :: 98 :: 99 :: 100 :: 101 :: 102 :: 103 :: 104 :: 105 :: 106 :: 107 :: 108 :: 109 :: 110 :: 111 :: []) (fun k => [(82, iv (k : Int))]) (fun k => []) (fun k => k ≤ mm) (fun k => mm - k) 0 (Nat.zero_le _) ?_ ?_ ?_
    · exact (by repeat (first | exact kn_nil | refine kn_cons (by rfl) ?_))
    · exact (by repeat (first | exact List.Sublist.refl _ | exact List.nil_sublist _ | refine List.Sublist.cons_cons _ ?_ | refine List.Sublist.cons _ ?_ | exact Sbp.refl | exact Sbp.nil | refine Sbp.cons (by repeat (first | exact Rem.head | apply Rem.tail)) ?_ | exact Sbp.app | refine Sbp.skip ?_ | exact List.sublist_append_left _ _ | exact List.sublist_append_right _ _))
    · intro k gj20 hz
      refine CS.seq ?_
      refine CS.region ?_
      refine RS.q rfl (QO.lss (by rfl) (by rfl)) ?_
      refine RS.nil ?_
      refine thenC_n ?_
      refine CS.seq ?_
      refine CS.cond (by rfl) (fun hb0 => ?_) (fun hb0 => ?_)
      · have hb0p := of_decide_eq_true hb0
        refine CS.skip ?_
        refine thenC_n ?_
        refine CS.seq ?_
        refine CS.block ?_
        refine CS.seq ?_
        refine CS.region ?_
        obtain ⟨kf, hkf⟩ : ∃ q, l.getD k default = q := ⟨_, rfl⟩
        have hxi := hA.isS (show 0 < l.length by omega)
        obtain ⟨bA, oA, e1⟩ := hxi
        have hA1 := hA
        rw [e1] at hA1
        have hok := hA1.ok (i := k) (show k < l.length by omega)
        have hd := hA1.whole (i := k) (show k < l.length by omega) (q := oA + (k : Int).toNat * 10) (by omega)
        rw [hkf] at hok hd
        obtain ⟨mw, hmw⟩ : ∃ q, movR kf.win dx dy = q := ⟨_, rfl⟩
        obtain ⟨me, hme⟩ : ∃ q, movE kf.win dx dy = q := ⟨_, rfl⟩
        have hmwl : mw.pts.length ≤ maxLen := hmw ▸ movR_len hok.2
        refine RS.q rfl (QO.idx Try.underlying57 ty67 (congrArg (fun A => Value.slice A mm c) e1) (by rfl) (by omega) (by omega)) ?_
        refine RS.q rfl (QO.loadOA ty67 (vs := kfC kf) (by rfl) hd (by rfl)) ?_
        refine RS.alloc rfl ty67 ?_
        intro g17
        first | refine RS.storeB ty67 (by rfl) (by rfl) (by rfl) (by rfl) (by rfl) (by repeat (first | exact Upd.head | apply Upd.tail)) (by rfl) ?_ | refine RS.storeP ty67 (by rfl) (by rfl) (by rfl) (by rfl) (by rfl) (by repeat (first | exact Upd.head | apply Upd.tail)) (by rfl) ?_
        refine RS.nil ?_
        refine thenC_n ?_
        refine CS.seq ?_
        refine CS.region ?_
        refine RS.q rfl (QO.fieldAddr fo67_2 (by rfl)) ?_
        first | (refine RS.q rfl (QO.loadB ty61 (by rfl) (by repeat (first | exact List.Mem.head _ | refine List.Mem.tail _ ?_)) (by rfl)) ?_) | (refine RS.q rfl (QO.loadA ty61 (by rfl) (by repeat (first | exact List.Mem.head _ | refine List.Mem.tail _ ?_)) (by rfl) (by rfl)) ?_) | (refine RS.q rfl (QO.loadOA ty61 (by rfl) (by assumption) (by rfl)) ?_)
        refine RS.q rfl (QO.move) ?_
        refine RS.q rfl (QO.move) ?_
        refine RS.call rfl (by rfl) ok28 (by rfl) (fun w ho => movedN mw kf.win kf.A kf.c dx dy me _ (hok.1.own ho) hok.2 hmw hme) ?_
        rintro _ Hm ⟨A5, c5, rfl, hO5⟩
        refine RS.perm List.perm_append_comm ?_
        refine RS.q rfl (QO.move) ?_
        refine RS.q rfl (QO.extract (by rfl) (by rfl)) ?_
        refine RS.q rfl (QO.extract (by rfl) (by rfl)) ?_
        refine RS.alloc rfl ty61 ?_
        intro g18
        first | refine RS.storeB ty61 (by rfl) (by rfl) (by rfl) (by rfl) (by rfl) (by repeat (first | exact Upd.head | apply Upd.tail)) (by rfl) ?_ | refine RS.storeP ty61 (by rfl) (by rfl) (by rfl) (by rfl) (by rfl) (by repeat (first | exact Upd.head | apply Upd.tail)) (by rfl) ?_
        refine RS.q rfl (QO.assign) ?_
        refine RS.nil ?_
        refine thenC_n ?_
        refine CS.seq ?_
        refine CS.region ?_
        refine RS.q rfl (QO.fieldAddr fo67_2 (by rfl)) ?_
        first | (refine RS.q rfl (QO.loadB ty61 (by rfl) (by repeat (first | exact List.Mem.head _ | refine List.Mem.tail _ ?_)) (by rfl)) ?_) | (refine RS.q rfl (QO.loadA ty61 (by rfl) (by repeat (first | exact List.Mem.head _ | refine List.Mem.tail _ ?_)) (by rfl) (by rfl)) ?_) | (refine RS.q rfl (QO.loadOA ty61 (by rfl) (by assumption) (by rfl)) ?_)
        refine RS.q rfl (QO.move) ?_
        refine RS.q rfl (QO.move) ?_
        refine RS.call rfl (by rfl) ok29 (by rfl) (fun w ho => rmovedN mw kf.win kf.A kf.c dx dy me _ (hok.1.own ho) hok.2 hmw hme) ?_
        rintro _ Hm2 ⟨A6, c6, rfl, hO6⟩
        refine RS.perm List.perm_append_comm ?_
        refine RS.q rfl (QO.move) ?_
        refine RS.q rfl (QO.extract (by rfl) (by rfl)) ?_
        refine RS.q rfl (QO.extract (by rfl) (by rfl)) ?_
        refine RS.alloc rfl ty61 ?_
        intro g20
        first | refine RS.storeB ty61 (by rfl) (by rfl) (by rfl) (by rfl) (by rfl) (by repeat (first | exact Upd.head | apply Upd.tail)) (by rfl) ?_ | refine RS.storeP ty61 (by rfl) (by rfl) (by rfl) (by rfl) (by rfl) (by repeat (first | exact Upd.head | apply Upd.tail)) (by rfl) ?_
        refine RS.q rfl (QO.assign) ?_
        refine RS.nil ?_
        refine thenC_n ?_
        refine CS.seq ?_
        refine CS.region ?_
        refine RS.q rfl (QO.move) ?_
        refine RS.q rfl (QO.move) ?_
        refine RS.qv rfl (QO.neq (by rfl) (by rfl)) (congrArg Value.bool (bne_self_eq_false _)) ?_
        refine RS.q rfl (QO.move) ?_
        refine RS.on (dj := 105) rfl (congrArg Value.bool rfl) ?_
        first | (refine RS.q rfl (QO.loadB ty61 (by rfl) (by repeat (first | exact List.Mem.head _ | refine List.Mem.tail _ ?_)) (by rfl)) ?_) | (refine RS.q rfl (QO.loadA ty61 (by rfl) (by repeat (first | exact List.Mem.head _ | refine List.Mem.tail _ ?_)) (by rfl) (by rfl)) ?_) | (refine RS.q rfl (QO.loadOA ty61 (by rfl) (by assumption) (by rfl)) ?_)
        refine RS.on (dj := 105) rfl (congrArg Value.bool rfl) ?_
        first | (refine RS.q rfl (QO.loadB ty61 (by rfl) (by repeat (first | exact List.Mem.head _ | refine List.Mem.tail _ ?_)) (by rfl)) ?_) | (refine RS.q rfl (QO.loadA ty61 (by rfl) (by repeat (first | exact List.Mem.head _ | refine List.Mem.tail _ ?_)) (by rfl) (by rfl)) ?_) | (refine RS.q rfl (QO.loadOA ty61 (by rfl) (by assumption) (by rfl)) ?_)
        refine RS.on (dj := 105) rfl (congrArg Value.bool rfl) ?_
        refine RS.call rfl (by rfl) ok26 (by rfl) (fun w ho => sameWin mw A5 A6 c5 c6 _ (hO5.at_ ho (Sbp.skip (Sbp.skip (Sbp.skip Sbp.app)))) (hO6.at_ ho (Sbp.skip (Sbp.skip (Sbp.skip (Sbp.right Sbp.refl))))) hmwl) ?_
        rintro _ _ ⟨rfl, rfl⟩
        refine RS.on (dj := 105) rfl (congrArg Value.bool rfl) ?_
        refine RS.qv rfl (QO.not (by rfl)) (congrArg Value.bool (show (!true) = false from rfl)) ?_
        refine RS.q rfl (QO.pickF (by rfl) rfl (by rfl)) ?_
        refine RS.nil ?_
        refine thenC_n ?_
        refine CS.condF (by rfl) rfl ?_
        refine CS.skip ?_
        refine blockC_n ?_
        refine thenC_n ?_
        refine CS.region ?_
        first | (refine RS.q rfl (QO.add (by rfl) (by rfl) (by omega) (by omega)) ?_) | (refine RS.q rfl (QO.ibin (by rfl) (by rfl) trivial) ?_)
        refine RS.q rfl (QO.move) ?_
        refine RS.nil ?_
        refine loopQ_n (by intro t ht; repeat (first | with_reducible exact rfl | exact frame_puts ht (frame_mix ht) _ rfl | (refine frame_put rfl ht ?_) | (refine frame_puts ht ?_ _ rfl) | exact frame_mix ht | (refine frame_mix2 rfl ht ?_) | exact rfl)) ?_
        exact ⟨k + 1, by omega, by omega, (by repeat (first | exact kn_nil | refine kn_cons (by rfl) ?_)), (by repeat (first | exact List.Sublist.refl _ | exact List.nil_sublist _ | refine List.Sublist.cons_cons _ ?_ | refine List.Sublist.cons _ ?_ | exact Sbp.refl | exact Sbp.nil | refine Sbp.cons (by repeat (first | exact Rem.head | apply Rem.tail)) ?_ | exact Sbp.app | refine Sbp.skip ?_ | exact List.sublist_append_left _ _ | exact List.sublist_append_right _ _))⟩
      · have hb0p := of_decide_eq_false hb0
        refine CS.exit ?_
        refine thenC_x ?_
        refine loopQ_x ?_
        refine blockC_x ?_
        refine thenC_n ?_
        refine CS.seq ?_
        refine CS.region ?_
        refine RS.q rfl (QO.assign) ?_
        refine RS.nil ?_
        refine thenC_n ?_
        refine CS.ret ?_
        refine retQ.mk (H' := []) (.inr rfl) (RVs.tmp (by rfl) RVs.nil) (List.nil_sublist _) ?_
        exact ⟨rfl, rfl⟩

set_option maxHeartbeats 4000000 in
set_option maxRecDepth 100000 in
theorem kfOk (A : Option Addr) (c : Nat) (l : List KF) (frame dx dy : Int) (W : World) (hA : KS W A l) (hc : l.length ≤ c) (hm : c ≤ maxLen) (he : frE l = 0) : Fn_ Try.prog 5 #[.slice A l.length c, iv frame, iv dx, iv dy] W (fun v H => v = .bool true ∧ H = []) := by
  unfold maxLen at hm
  have hml : l.length ≤ maxLen := by unfold maxLen; omega
  obtain ⟨mm, hmm⟩ : ∃ q, (min (l.length : Int) 3).toNat = q := ⟨_, rfl⟩
  have hmm2 : mm ≤ l.length := by omega
  obtain ⟨bw, hbw⟩ : ∃ q, betw l frame = q := ⟨_, rfl⟩
  have hbl : bw.pts.length ≤ maxLen := hbw ▸ betw_len he
  refine Fn_.intro Try.func5 rfl rfl (by rfl) ?_
  refine CS.seq ?_
  refine CS.region ?_
  refine RS.q rfl (QO.assign) ?_
  refine RS.nil ?_
  refine thenC_n ?_
  refine CS.seq ?_
  refine CS.seq ?_
  refine CS.region ?_
  refine RS.call rfl (by rfl) ok9 (by rfl) (fun w ho => landed _) ?_
  rintro _ _ ⟨rfl, rfl⟩
  refine RS.qv rfl (QO.not (by rfl)) (congrArg Value.bool (show (!true) = false from rfl)) ?_
  refine RS.nil ?_
  refine thenC_n ?_
  refine CS.condF (by rfl) rfl ?_
  refine CS.skip ?_
  refine thenC_n ?_
  refine CS.seq ?_
  refine CS.region ?_
  refine RS.q rfl (QO.move) ?_
  refine RS.call rfl (by rfl) ok23 (by rfl) (fun w ho => framesError A c l _ (hA.own ho) hml) ?_
  rintro _ _ ⟨rfl, rfl⟩
  refine RS.q rfl (QO.assign) ?_
  refine RS.nil ?_
  refine thenC_n ?_
  refine CS.seq ?_
  refine CS.region ?_
  refine RS.q rfl (QO.move) ?_
  refine RS.q rfl (QO.move) ?_
  refine RS.call rfl (by rfl) ok24 (by rfl) (fun w ho => betweenAt A c l frame bw _ (hA.own ho) hml he hbw) ?_
  rintro _ Hb ⟨A2, c2, rfl, hO⟩
  refine RS.perm List.perm_append_comm ?_
  refine RS.q rfl (QO.move) ?_
  refine RS.q rfl (QO.extract (by rfl) (by rfl)) ?_
  refine RS.q rfl (QO.extract (by rfl) (by rfl)) ?_
  refine RS.alloc rfl ty61 ?_
  intro g10
  first | refine RS.storeB ty61 (by rfl) (by rfl) (by rfl) (by rfl) (by rfl) (by repeat (first | exact Upd.head | apply Upd.tail)) (by rfl) ?_ | refine RS.storeP ty61 (by rfl) (by rfl) (by rfl) (by rfl) (by rfl) (by repeat (first | exact Upd.head | apply Upd.tail)) (by rfl) ?_
  refine RS.q rfl (QO.assign) ?_
  refine RS.nil ?_
  refine thenC_n ?_
  refine CS.seq ?_
  refine CS.seq ?_
  refine CS.region ?_
  refine RS.q rfl (QO.move) ?_
  refine RS.call rfl (by rfl) ok25 (by rfl) (fun w ho => checkFrames A c l _ (hA.own ho) hml) ?_
  rintro _ _ ⟨rfl, rfl⟩
  refine RS.q rfl (QO.move) ?_
  refine RS.qv rfl (QO.neq (by rfl) (by rfl)) (congrArg Value.bool (bne_self_eq_false _)) ?_
  refine RS.q rfl (QO.move) ?_
  refine RS.on (dj := 36) rfl (congrArg Value.bool rfl) ?_
  refine RS.q rfl (QO.move) ?_
  refine RS.on (dj := 36) rfl (congrArg Value.bool rfl) ?_
  refine RS.q rfl (QO.move) ?_
  refine RS.on (dj := 36) rfl (congrArg Value.bool rfl) ?_
  refine RS.qv rfl (QO.neq (by rfl) (by rfl)) (congrArg Value.bool (show ((0 : Int) != frE l) = false from by rw [he]; rfl)) ?_
  refine RS.q rfl (QO.pickF (by rfl) rfl (by rfl)) ?_
  refine RS.nil ?_
  refine thenC_n ?_
  refine CS.condF (by rfl) rfl ?_
  refine CS.skip ?_
  refine thenC_n ?_
  refine CS.cut (X := Unit) (8 :: 13 :: 14 :: 15 :: 41 :: 42 :: 43 :: 44 :: 45 :: 46 :: 47 :: 48 :: 49 :: 50 :: 51 :: 52 :: 53 :: 54 :: 55 :: 56 :: 57 :: 58 :: 59 :: 60 :: 61 :: 62 :: 63 :: 64 :: 65 :: 66 :: 67 :: 68 :: 69 :: 70 :: 71 :: 72 :: 73 :: 74 :: 75 :: []) (fun z => []) (fun z => []) (fun z => True) ?_ ?_
  · refine CS.seq ?_
    refine CS.region ?_
    refine RS.q rfl (QO.move) ?_
    refine RS.qv rfl (QO.neq (by rfl) (by rfl)) (congrArg Value.bool (show (frE l != 0) = false from by rw [he]; rfl)) ?_
    refine RS.nil ?_
    refine thenC_n ?_
    refine CS.condF (by rfl) rfl ?_
    refine CS.cut (X := Unit) [8, 47, 48, 49, 50, 51, 52] (fun z => []) (fun z => []) (fun z => True) ?_ ?_
    · refine CS.seq ?_
      refine CS.draw 6 rfl (by kernel_rfl) (by kernel_rfl) ?_
      first | (refine RT.take (i := 0) rfl (by kernel_rfl) rfl (QO.loadB ty61 (by rfl) (by repeat (first | exact List.Mem.head _ | refine List.Mem.tail _ ?_)) (by rfl)) ?_) | (refine RT.take (i := 0) rfl (by kernel_rfl) rfl (QO.loadA ty61 (by rfl) (by repeat (first | exact List.Mem.head _ | refine List.Mem.tail _ ?_)) (by rfl) (by rfl)) ?_) | (refine RT.take (i := 0) rfl (by kernel_rfl) rfl (QO.loadOA ty61 (by rfl) (by assumption) (by rfl)) ?_)
      refine RT.take (i := 1) rfl (by kernel_rfl) rfl (QO.move) ?_
      refine RT.take (i := 2) rfl (by kernel_rfl) rfl (QO.move) ?_
      refine RT.one (i := 3) (by kernel_rfl) rfl rfl ?_
      refine RS.call rfl (by rfl) ok27 (by rfl) (fun w ho => betweenFramesN A c l frame bw _ (hA.own ho) he hbw) ?_
      rintro _ Hr ⟨A3, c3, rfl, hP⟩
      refine RS.perm List.perm_append_comm ?_
      refine RS.nil ⟨(by repeat (first | exact List.Sublist.refl _ | exact List.nil_sublist _ | refine List.Sublist.cons_cons _ ?_ | refine List.Sublist.cons _ ?_ | exact Sbp.refl | exact Sbp.nil | refine Sbp.cons (by repeat (first | exact Rem.head | apply Rem.tail)) ?_ | exact Sbp.app | refine Sbp.skip ?_ | exact List.sublist_append_left _ _ | exact List.sublist_append_right _ _)), ?_⟩
      refine RT.one (i := 4) (by kernel_rfl) rfl rfl ?_
      refine RS.call rfl (by rfl) ok26 (by rfl) (fun w ho => sameWin bw A2 A3 c2 c3 _ (hO.at_ ho (Sbp.skip Sbp.app)) (hP.at_ (hA.own ho) ho (Sbp.skip (Sbp.right Sbp.refl))) hbl) ?_
      rintro _ _ ⟨rfl, rfl⟩
      refine RS.nil ⟨(by repeat (first | exact List.Sublist.refl _ | exact List.nil_sublist _ | refine List.Sublist.cons_cons _ ?_ | refine List.Sublist.cons _ ?_ | exact Sbp.refl | exact Sbp.nil | refine Sbp.cons (by repeat (first | exact Rem.head | apply Rem.tail)) ?_ | exact Sbp.app | refine Sbp.skip ?_ | exact List.sublist_append_left _ _ | exact List.sublist_append_right _ _)), ?_⟩
      refine RT.takev (i := 5) rfl (by kernel_rfl) rfl (QO.not (by rfl)) (congrArg Value.bool (show (!true) = false from rfl)) ?_
      refine RT.done (by kernel_rfl) ?_
      refine thenC_n ?_
      refine CS.condF (by rfl) rfl ?_
      refine CS.skip ?_
      refine cutQ_n (by intro t ht; repeat (first | with_reducible exact rfl | exact frame_puts ht (frame_mix ht) _ rfl | (refine frame_put rfl ht ?_) | (refine frame_puts ht ?_ _ rfl) | exact frame_mix ht | (refine frame_mix2 rfl ht ?_) | exact rfl)) ?_
      exact ⟨(), trivial, (by repeat (first | exact kn_nil | refine kn_cons (by rfl) ?_)), (by repeat (first | exact List.Sublist.refl _ | exact List.nil_sublist _ | refine List.Sublist.cons_cons _ ?_ | refine List.Sublist.cons _ ?_ | exact Sbp.refl | exact Sbp.nil | refine Sbp.cons (by repeat (first | exact Rem.head | apply Rem.tail)) ?_ | exact Sbp.app | refine Sbp.skip ?_ | exact List.sublist_append_left _ _ | exact List.sublist_append_right _ _))⟩
    · intro z gj hz
      refine CS.seq ?_
      refine CS.region ?_
      refine RS.q rfl (QO.move) ?_
      refine RS.q rfl (QO.lenS Try.underlying57 (by rfl)) ?_
      refine RS.q rfl (QO.move) ?_
      refine RS.nil ?_
      refine thenC_n ?_
      refine CS.block ?_
      refine CS.loop (X := Nat) (8 :: 13 :: 14 :: 15 :: 55 :: 56 :: 57 :: 58 :: 59 :: 60 :: 61 :: 62 :: 63 :: 64 :: 65 :: 66 :: 67 :: 68 :: 69 :: 70 :: 71 :: 72 :: 73 :: 74 :: 75 :: []) (fun k => [(55, iv (k : Int))]) (fun k => []) (fun k => k ≤ l.length) (fun k => l.length - k) 0 (Nat.zero_le _) ?_ ?_ ?_
      · exact (by repeat (first | exact kn_nil | refine kn_cons (by rfl) ?_))
      · exact (by repeat (first | exact List.Sublist.refl _ | exact List.nil_sublist _ | refine List.Sublist.cons_cons _ ?_ | refine List.Sublist.cons _ ?_ | exact Sbp.refl | exact Sbp.nil | refine Sbp.cons (by repeat (first | exact Rem.head | apply Rem.tail)) ?_ | exact Sbp.app | refine Sbp.skip ?_ | exact List.sublist_append_left _ _ | exact List.sublist_append_right _ _))
      · intro k gj13 hz
        refine CS.seq ?_
        refine CS.region ?_
        refine RS.q rfl (QO.lss (by rfl) (by rfl)) ?_
        refine RS.nil ?_
        refine thenC_n ?_
        refine CS.seq ?_
        refine CS.cond (by rfl) (fun hb0 => ?_) (fun hb0 => ?_)
        · have hb0p := of_decide_eq_true hb0
          refine CS.skip ?_
          refine thenC_n ?_
          refine CS.seq ?_
          refine CS.block ?_
          refine CS.seq ?_
          refine CS.region ?_
          obtain ⟨kf, hkf⟩ : ∃ q, l.getD k default = q := ⟨_, rfl⟩
          have hxi := hA.isS (show 0 < l.length by omega)
          obtain ⟨bA, oA, e1⟩ := hxi
          have hA1 := hA
          rw [e1] at hA1
          have hok := hA1.ok (i := k) (show k < l.length by omega)
          have hd := hA1.whole (i := k) (show k < l.length by omega) (q := oA + (k : Int).toNat * 10) (by omega)
          rw [hkf] at hok hd
          refine RS.q rfl (QO.idx Try.underlying57 ty67 (congrArg (fun A => Value.slice A l.length c) e1) (by rfl) (by omega) (by omega)) ?_
          refine RS.q rfl (QO.loadOA ty67 (vs := kfC kf) (by rfl) hd (by rfl)) ?_
          refine RS.alloc rfl ty67 ?_
          intro g13
          first | refine RS.storeB ty67 (by rfl) (by rfl) (by rfl) (by rfl) (by rfl) (by repeat (first | exact Upd.head | apply Upd.tail)) (by rfl) ?_ | refine RS.storeP ty67 (by rfl) (by rfl) (by rfl) (by rfl) (by rfl) (by repeat (first | exact Upd.head | apply Upd.tail)) (by rfl) ?_
          refine RS.nil ?_
          refine thenC_n ?_
          refine CS.seq ?_
          refine CS.region ?_
          refine RS.q rfl (QO.move) ?_
          refine RS.q rfl (QO.fieldAddr fo67_0 (by rfl)) ?_
          first | (refine RS.q rfl (QO.load ty3 (by rfl) (by repeat (first | exact List.Mem.head _ | refine List.Mem.tail _ ?_)) (by rfl)) ?_) | (refine RS.q rfl (QO.loadO ty3 (by rfl) (by assumption)) ?_) | (refine RS.q rfl (QO.load ty3 (by rfl) (by repeat (first | exact List.Mem.head _ | refine List.Mem.tail _ ?_)) (by assumption)) ?_)
          refine RS.call rfl (by rfl) ok24 (by rfl) (fun w ho => betweenAt A c l kf.frame kf.win _ (hA.own ho) hml he (betw_kf he (by omega) hkf)) ?_
          rintro _ Hk ⟨A4, c4, rfl, hO4⟩
          refine RS.perm List.perm_append_comm ?_
          refine RS.q rfl (QO.move) ?_
          refine RS.q rfl (QO.extract (by rfl) (by rfl)) ?_
          refine RS.q rfl (QO.extract (by rfl) (by rfl)) ?_
          refine RS.alloc rfl ty61 ?_
          intro g14
          first | refine RS.storeB ty61 (by rfl) (by rfl) (by rfl) (by rfl) (by rfl) (by repeat (first | exact Upd.head | apply Upd.tail)) (by rfl) ?_ | refine RS.storeP ty61 (by rfl) (by rfl) (by rfl) (by rfl) (by rfl) (by repeat (first | exact Upd.head | apply Upd.tail)) (by rfl) ?_
          refine RS.q rfl (QO.assign) ?_
          refine RS.nil ?_
          refine thenC_n ?_
          refine CS.seq ?_
          refine CS.region ?_
          refine RS.q rfl (QO.move) ?_
          refine RS.qv rfl (QO.neq (by rfl) (by rfl)) (congrArg Value.bool (bne_self_eq_false _)) ?_
          refine RS.q rfl (QO.move) ?_
          refine RS.on (dj := 68) rfl (congrArg Value.bool rfl) ?_
          first | (refine RS.q rfl (QO.loadB ty61 (by rfl) (by repeat (first | exact List.Mem.head _ | refine List.Mem.tail _ ?_)) (by rfl)) ?_) | (refine RS.q rfl (QO.loadA ty61 (by rfl) (by repeat (first | exact List.Mem.head _ | refine List.Mem.tail _ ?_)) (by rfl) (by rfl)) ?_) | (refine RS.q rfl (QO.loadOA ty61 (by rfl) (by assumption) (by rfl)) ?_)
          refine RS.on (dj := 68) rfl (congrArg Value.bool rfl) ?_
          refine RS.q rfl (QO.fieldAddr fo67_2 (by rfl)) ?_
          refine RS.on (dj := 68) rfl (congrArg Value.bool rfl) ?_
          first | (refine RS.q rfl (QO.loadB ty61 (by rfl) (by repeat (first | exact List.Mem.head _ | refine List.Mem.tail _ ?_)) (by rfl)) ?_) | (refine RS.q rfl (QO.loadA ty61 (by rfl) (by repeat (first | exact List.Mem.head _ | refine List.Mem.tail _ ?_)) (by rfl) (by rfl)) ?_) | (refine RS.q rfl (QO.loadOA ty61 (by rfl) (by assumption) (by rfl)) ?_)
          refine RS.on (dj := 68) rfl (congrArg Value.bool rfl) ?_
          refine RS.call rfl (by rfl) ok26 (by rfl) (fun w ho => sameWin kf.win A4 kf.A c4 kf.c _ (hO4.at_ ho (Sbp.skip (Sbp.skip Sbp.refl))) (hok.1.own ho) hok.2) ?_
          rintro _ _ ⟨rfl, rfl⟩
          refine RS.on (dj := 68) rfl (congrArg Value.bool rfl) ?_
          refine RS.qv rfl (QO.not (by rfl)) (congrArg Value.bool (show (!true) = false from rfl)) ?_
          refine RS.q rfl (QO.pickF (by rfl) rfl (by rfl)) ?_
          refine RS.nil ?_
          refine thenC_n ?_
          refine CS.condF (by rfl) rfl ?_
          refine CS.skip ?_
          refine blockC_n ?_
          refine thenC_n ?_
          refine CS.region ?_
          first | (refine RS.q rfl (QO.add (by rfl) (by rfl) (by omega) (by omega)) ?_) | (refine RS.q rfl (QO.ibin (by rfl) (by rfl) trivial) ?_)
          refine RS.q rfl (QO.move) ?_
          refine RS.nil ?_
          refine loopQ_n (by intro t ht; repeat (first | with_reducible exact rfl | exact frame_puts ht (frame_mix ht) _ rfl | (refine frame_put rfl ht ?_) | (refine frame_puts ht ?_ _ rfl) | exact frame_mix ht | (refine frame_mix2 rfl ht ?_) | exact rfl)) ?_
          exact ⟨k + 1, by omega, by omega, (by repeat (first | exact kn_nil | refine kn_cons (by rfl) ?_)), (by repeat (first | exact List.Sublist.refl _ | exact List.nil_sublist _ | refine List.Sublist.cons_cons _ ?_ | refine List.Sublist.cons _ ?_ | exact Sbp.refl | exact Sbp.nil | refine Sbp.cons (by repeat (first | exact Rem.head | apply Rem.tail)) ?_ | exact Sbp.app | refine Sbp.skip ?_ | exact List.sublist_append_left _ _ | exact List.sublist_append_right _ _))⟩
        · have hb0p := of_decide_eq_false hb0
          refine CS.exit ?_
          refine thenC_x ?_
          refine loopQ_x ?_
          refine blockC_x ?_
          refine cutQ_n (by intro t ht; repeat (first | with_reducible exact rfl | exact frame_puts ht (frame_mix ht) _ rfl | (refine frame_put rfl ht ?_) | (refine frame_puts ht ?_ _ rfl) | exact frame_mix ht | (refine frame_mix2 rfl ht ?_) | exact rfl)) ?_
          exact ⟨(), trivial, (by repeat (first | exact kn_nil | refine kn_cons (by rfl) ?_)), (by repeat (first | exact List.Sublist.refl _ | exact List.nil_sublist _ | refine List.Sublist.cons_cons _ ?_ | refine List.Sublist.cons _ ?_ | exact Sbp.refl | exact Sbp.nil | refine Sbp.cons (by repeat (first | exact Rem.head | apply Rem.tail)) ?_ | exact Sbp.app | refine Sbp.skip ?_ | exact List.sublist_append_left _ _ | exact List.sublist_append_right _ _))⟩
  · intro z gj hz
    refine CS.seq ?_
    refine CS.seq ?_
    refine CS.region ?_
    refine RS.q rfl (QO.move) ?_
    refine RS.q rfl (QO.move) ?_
    refine RS.q rfl (QO.lenS Try.underlying57 (by rfl)) ?_
    refine RS.q rfl (QO.min2 (by rfl) (by rfl)) ?_
    refine RS.qv rfl (QO.cutHi Try.underlying57 ty67 (by rfl) (by rfl) (by omega) (by omega)) (congrArg (fun n => Value.slice A n c) hmm) ?_
    refine RS.q rfl (QO.lenS Try.underlying57 (by rfl)) ?_
    refine RS.q rfl (QO.move) ?_
    refine RS.nil ?_
    refine thenC_n ?_
    refine CS.block ?_
    refine CS.loop (X := Nat) (8 :: 17 :: 18 :: 19 :: 20 :: 21 :: 82 :: 83 :: 84 :: 85 :: 86 :: 87 :: 88 :: 89 :: 90 :: 91 :: 92 :: 93 :: 94 :: 95 :: 96 :: 97 :: 98 :: 99 :: 100 :: 101 :: 102 :: 103 :: 104 :: 105 :: 106 :: 107 :: 108 :: 109 :: 110 :: 111 :: []) (fun k => [(82, iv (k : Int))]) (fun k => []) (fun k => k ≤ mm) (fun k => mm - k) 0 (Nat.zero_le _) ?_ ?_ ?_
    · exact (by repeat (first | exact kn_nil | refine kn_cons (by rfl) ?_))
    · exact (by repeat (first | exact List.Sublist.refl _ | exact List.nil_sublist _ | refine List.Sublist.cons_cons _ ?_ | refine List.Sublist.cons _ ?_ | exact Sbp.refl | exact Sbp.nil | refine Sbp.cons (by repeat (first | exact Rem.head | apply Rem.tail)) ?_ | exact Sbp.app | refine Sbp.skip ?_ | exact List.sublist_append_left _ _ | exact List.sublist_append_right _ _))
    · intro k gj20 hz
      refine CS.seq ?_
      refine CS.region ?_
      refine RS.q rfl (QO.lss (by rfl) (by rfl)) ?_
      refine RS.nil ?_
      refine thenC_n ?_
      refine CS.seq ?_
      refine CS.cond (by rfl) (fun hb1 => ?_) (fun hb1 => ?_)
      · have hb1p := of_decide_eq_true hb1
        refine CS.skip ?_
        refine thenC_n ?_
        refine CS.seq ?_
        refine CS.block ?_
        refine CS.seq ?_
        refine CS.region ?_
        obtain ⟨kf, hkf⟩ : ∃ q, l.getD k default = q := ⟨_, rfl⟩
        have hxi := hA.isS (show 0 < l.length by omega)
        obtain ⟨bA, oA, e1⟩ := hxi
        have hA1 := hA
        rw [e1] at hA1
        have hok := hA1.ok (i := k) (show k < l.length by omega)
        have hd := hA1.whole (i := k) (show k < l.length by omega) (q := oA + (k : Int).toNat * 10) (by omega)
        rw [hkf] at hok hd
        obtain ⟨mw, hmw⟩ : ∃ q, movR kf.win dx dy = q := ⟨_, rfl⟩
        obtain ⟨me, hme⟩ : ∃ q, movE kf.win dx dy = q := ⟨_, rfl⟩
        have hmwl : mw.pts.length ≤ maxLen := hmw ▸ movR_len hok.2
        refine RS.q rfl (QO.idx Try.underlying57 ty67 (congrArg (fun A => Value.slice A mm c) e1) (by rfl) (by omega) (by omega)) ?_
        refine RS.q rfl (QO.loadOA ty67 (vs := kfC kf) (by rfl) hd (by rfl)) ?_
        refine RS.alloc rfl ty67 ?_
        intro g17
        first | refine RS.storeB ty67 (by rfl) (by rfl) (by rfl) (by rfl) (by rfl) (by repeat (first | exact Upd.head | apply Upd.tail)) (by rfl) ?_ | refine RS.storeP ty67 (by rfl) (by rfl) (by rfl) (by rfl) (by rfl) (by repeat (first | exact Upd.head | apply Upd.tail)) (by rfl) ?_
        refine RS.nil ?_
        refine thenC_n ?_
        refine CS.seq ?_
        refine CS.region ?_
        refine RS.q rfl (QO.fieldAddr fo67_2 (by rfl)) ?_
        first | (refine RS.q rfl (QO.loadB ty61 (by rfl) (by repeat (first | exact List.Mem.head _ | refine List.Mem.tail _ ?_)) (by rfl)) ?_) | (refine RS.q rfl (QO.loadA ty61 (by rfl) (by repeat (first | exact List.Mem.head _ | refine List.Mem.tail _ ?_)) (by rfl) (by rfl)) ?_) | (refine RS.q rfl (QO.loadOA ty61 (by rfl) (by assumption) (by rfl)) ?_)
        refine RS.q rfl (QO.move) ?_
        refine RS.q rfl (QO.move) ?_
        refine RS.call rfl (by rfl) ok28 (by rfl) (fun w ho => movedN mw kf.win kf.A kf.c dx dy me _ (hok.1.own ho) hok.2 hmw hme) ?_
        rintro _ Hm ⟨A5, c5, rfl, hO5⟩
        refine RS.perm List.perm_append_comm ?_
        refine RS.q rfl (QO.move) ?_
        refine RS.q rfl (QO.extract (by rfl) (by rfl)) ?_
        refine RS.q rfl (QO.extract (by rfl) (by rfl)) ?_
        refine RS.alloc rfl ty61 ?_
        intro g18
        first | refine RS.storeB ty61 (by rfl) (by rfl) (by rfl) (by rfl) (by rfl) (by repeat (first | exact Upd.head | apply Upd.tail)) (by rfl) ?_ | refine RS.storeP ty61 (by rfl) (by rfl) (by rfl) (by rfl) (by rfl) (by repeat (first | exact Upd.head | apply Upd.tail)) (by rfl) ?_
        refine RS.q rfl (QO.assign) ?_
        refine RS.nil ?_
        refine thenC_n ?_
        refine CS.seq ?_
        refine CS.region ?_
        refine RS.q rfl (QO.fieldAddr fo67_2 (by rfl)) ?_
        first | (refine RS.q rfl (QO.loadB ty61 (by rfl) (by repeat (first | exact List.Mem.head _ | refine List.Mem.tail _ ?_)) (by rfl)) ?_) | (refine RS.q rfl (QO.loadA ty61 (by rfl) (by repeat (first | exact List.Mem.head _ | refine List.Mem.tail _ ?_)) (by rfl) (by rfl)) ?_) | (refine RS.q rfl (QO.loadOA ty61 (by rfl) (by assumption) (by rfl)) ?_)
        refine RS.q rfl (QO.move) ?_
        refine RS.q rfl (QO.move) ?_
        refine RS.call rfl (by rfl) ok29 (by rfl) (fun w ho => rmovedN mw kf.win kf.A kf.c dx dy me _ (hok.1.own ho) hok.2 hmw hme) ?_
        rintro _ Hm2 ⟨A6, c6, rfl, hO6⟩
        refine RS.perm List.perm_append_comm ?_
        refine RS.q rfl (QO.move) ?_
        refine RS.q rfl (QO.extract (by rfl) (by rfl)) ?_
        refine RS.q rfl (QO.extract (by rfl) (by rfl)) ?_
        refine RS.alloc rfl ty61 ?_
        intro g20
        first | refine RS.storeB ty61 (by rfl) (by rfl) (by rfl) (by rfl) (by rfl) (by repeat (first | exact Upd.head | apply Upd.tail)) (by rfl) ?_ | refine RS.storeP ty61 (by rfl) (by rfl) (by rfl) (by rfl) (by rfl) (by repeat (first | exact Upd.head | apply Upd.tail)) (by rfl) ?_
        refine RS.q rfl (QO.assign) ?_
        refine RS.nil ?_
        refine thenC_n ?_
        refine CS.seq ?_
        refine CS.region ?_
        refine RS.q rfl (QO.move) ?_
        refine RS.q rfl (QO.move) ?_
        refine RS.qv rfl (QO.neq (by rfl) (by rfl)) (congrArg Value.bool (bne_self_eq_false _)) ?_
        refine RS.q rfl (QO.move) ?_
        refine RS.on (dj := 105) rfl (congrArg Value.bool rfl) ?_
        first | (refine RS.q rfl (QO.loadB ty61 (by rfl) (by repeat (first | exact List.Mem.head _ | refine List.Mem.tail _ ?_)) (by rfl)) ?_) | (refine RS.q rfl (QO.loadA ty61 (by rfl) (by repeat (first | exact List.Mem.head _ | refine List.Mem.tail _ ?_)) (by rfl) (by rfl)) ?_) | (refine RS.q rfl (QO.loadOA ty61 (by rfl) (by assumption) (by rfl)) ?_)
        refine RS.on (dj := 105) rfl (congrArg Value.bool rfl) ?_
        first | (refine RS.q rfl (QO.loadB ty61 (by rfl) (by repeat (first | exact List.Mem.head _ | refine List.Mem.tail _ ?_)) (by rfl)) ?_) | (refine RS.q rfl (QO.loadA ty61 (by rfl) (by repeat (first | exact List.Mem.head _ | refine List.Mem.tail _ ?_)) (by rfl) (by rfl)) ?_) | (refine RS.q rfl (QO.loadOA ty61 (by rfl) (by assumption) (by rfl)) ?_)
        refine RS.on (dj := 105) rfl (congrArg Value.bool rfl) ?_
        refine RS.call rfl (by rfl) ok26 (by rfl) (fun w ho => sameWin mw A5 A6 c5 c6 _ (hO5.at_ ho (Sbp.skip (Sbp.skip (Sbp.skip Sbp.app)))) (hO6.at_ ho (Sbp.skip (Sbp.skip (Sbp.skip (Sbp.right Sbp.refl))))) hmwl) ?_
        rintro _ _ ⟨rfl, rfl⟩
        refine RS.on (dj := 105) rfl (congrArg Value.bool rfl) ?_
        refine RS.qv rfl (QO.not (by rfl)) (congrArg Value.bool (show (!true) = false from rfl)) ?_
        refine RS.q rfl (QO.pickF (by rfl) rfl (by rfl)) ?_
        refine RS.nil ?_
        refine thenC_n ?_
        refine CS.condF (by rfl) rfl ?_
        refine CS.skip ?_
        refine blockC_n ?_
        refine thenC_n ?_
        refine CS.region ?_
        first | (refine RS.q rfl (QO.add (by rfl) (by rfl) (by omega) (by omega)) ?_) | (refine RS.q rfl (QO.ibin (by rfl) (by rfl) trivial) ?_)
        refine RS.q rfl (QO.move) ?_
        refine RS.nil ?_
        refine loopQ_n (by intro t ht; repeat (first | with_reducible exact rfl | exact frame_puts ht (frame_mix ht) _ rfl | (refine frame_put rfl ht ?_) | (refine frame_puts ht ?_ _ rfl) | exact frame_mix ht | (refine frame_mix2 rfl ht ?_) | exact rfl)) ?_
        exact ⟨k + 1, by omega, by omega, (by repeat (first | exact kn_nil | refine kn_cons (by rfl) ?_)), (by repeat (first | exact List.Sublist.refl _ | exact List.nil_sublist _ | refine List.Sublist.cons_cons _ ?_ | refine List.Sublist.cons _ ?_ | exact Sbp.refl | exact Sbp.nil | refine Sbp.cons (by repeat (first | exact Rem.head | apply Rem.tail)) ?_ | exact Sbp.app | refine Sbp.skip ?_ | exact List.sublist_append_left _ _ | exact List.sublist_append_right _ _))⟩
      · have hb1p := of_decide_eq_false hb1
        refine CS.exit ?_
        refine thenC_x ?_
        refine loopQ_x ?_
        refine blockC_x ?_
        refine thenC_n ?_
        refine CS.seq ?_
        refine CS.region ?_
        refine RS.q rfl (QO.assign) ?_
        refine RS.nil ?_
        refine thenC_n ?_
        refine CS.ret ?_
        refine retQ.mk (H' := []) (.inr rfl) (RVs.tmp (by rfl) RVs.nil) (List.nil_sublist _) ?_
        exact ⟨rfl, rfl⟩

theorem keyFramesMatch (A : Option Addr) (c : Nat) (l : List KF) (frame dx dy : Int) (W : World) (hA : KS W A l) (hc : l.length ≤ c) (hm : c ≤ maxLen) : Fn_ Try.prog 5 #[.slice A l.length c, iv frame, iv dx, iv dy] W (fun v H => v = .bool true ∧ H = []) := by
  by_cases he : frE l = 0
  · exact kfOk A c l frame dx dy W hA hc hm he
  · exact kfBad A c l frame dx dy W hA hc hm he

end Go.Proofs.Ytapcgokcfmklbaa

namespace Go.Proofs.Ytapcgokcfmklbaa
open Go Go.ChangeShapes Go.WideShapes Go.ChangeAt Go.RowKit
open Go.ChangeMaps (open_string shut_string)

theorem keyFramesMatch_own : ownKnob Try.prog.godebug = none := by kernel_rfl
theorem keyFramesMatch_laidOut : laidOutB Try.prog = true := by kernel_rfl
theorem keyFramesMatch_lv31 : leaves Try.prog 9 31 = some [3, 3] := by kernel_rfl
theorem keyFramesMatch_co31 : Try.prog.cellsOf 31 = 2 := by kernel_rfl
theorem keyFramesMatch_lv67 : leaves Try.prog 9 67 = some [3, 3, 3, 29, 29, 29, 29, 29, 59, 4] := by kernel_rfl
theorem keyFramesMatch_co67 : Try.prog.cellsOf 67 = 10 := by kernel_rfl

set_option maxHeartbeats 4000000 in
set_option maxRecDepth 100000 in
theorem keyFramesMatch_lifted (os : Os) (started : os.Started) (H : Type) (enc : TypeId × Value → H) :
    ReturnsInHanded {} Try.checked os 5 .any (Rows.keyFramesMatchSpec.pre6 enc Try.prog Try.f5 Rows.keyFramesMatchRow.domain false) (Rows.keyFramesMatchSpec.post enc Try.prog Try.f5 false true false false) := by
  refine returnsInHanded_of_change (C := Try.checked) keyFramesMatch_own started (by kernel_rfl) Try.func5
    (ChangeSpec.witness6 (enc := enc) (C := Try.checked) false ⟨#[], #[.slice none 0 0, .int .i64 0, .int .i64 0, .int .i64 0], []⟩ 8 (by kernel_rfl) (by kernel_rfl) (by kernel_rfl) (by kernel_rfl)) ?_
  intro W base args ds gs before hval0 hW hcnd _
  have hval : ∀ (j : Nat) t v, Try.f5.params[j]? = some t → args[j]? = some v → Value.okWide Try.prog W .any base t v := hval0
  have hW' := hW
  obtain ⟨p, q, hA0, hV, rfl, hfz, hnd⟩ := hW
  have hA : DataW.TrodAll enc Try.prog W 0 (fun _ => true) true Try.f5.params.toList args.toList ds p := hA0
  rw [Try.params5] at hA hval
  obtain ⟨v0, vs0, d0, ds0, p0, q0, hargs, rfl, rfl, h0, r0⟩ := trodAll_cons hA
  obtain ⟨v1, vs1, d1, ds1, p1, q1, rfl, rfl, rfl, h1, r1⟩ := trodAll_cons r0
  obtain ⟨v2, vs2, d2, ds2, p2, q2, rfl, rfl, rfl, h2, r2⟩ := trodAll_cons r1
  obtain ⟨v3, vs3, d3, ds3, p3, q3, rfl, rfl, rfl, h3, r3⟩ := trodAll_cons r2
  obtain ⟨rfl, rfl, rfl⟩ := trodAll_nil r3
  obtain rfl : args = #[v0, v1, v2, v3] := by cases args; simp_all
  obtain ⟨rfl, rfl⟩ := trodVars_none hV
  have k0 := h0
  have lt0 : ∀ x ∈ p0, x.block < W.heap.size := by obtain ⟨m, hm⟩ := k0; exact DataW.trod_lt m _ _ _ hm
  have k1 := h1
  have lt1 : ∀ x ∈ p1, x.block < W.heap.size := by obtain ⟨m, hm⟩ := k1; exact DataW.trod_lt m _ _ _ hm
  have k2 := h2
  have lt2 : ∀ x ∈ p2, x.block < W.heap.size := by obtain ⟨m, hm⟩ := k2; exact DataW.trod_lt m _ _ _ hm
  have k3 := h3
  have lt3 : ∀ x ∈ p3, x.block < W.heap.size := by obtain ⟨m, hm⟩ := k3; exact DataW.trod_lt m _ _ _ hm
  have hc0 : v0.cells.toList = [v0] := by obtain ⟨_, _, _, rfl⟩ := okWide_slice Try.underlying57 (hval 0 57 v0 rfl rfl); rfl
  have l0 := leaf_of h0 hc0
  obtain ⟨xs_A, xs_c, xs, el0, xs_k, xs_m, xs_f⟩ := l0.frames Try.underlying57 keyFramesMatch_lv67 keyFramesMatch_co67 Try.underlying3 Try.underlying29 Try.underlying59 keyFramesMatch_lv31 keyFramesMatch_co31 Try.underlying3 Try.underlying3 Try.underlying4
  cases el0
  have hc1 : v1.cells.toList = [v1] := by obtain ⟨_, rfl⟩ := okWide_int Try.underlying3 (hval 1 3 v1 rfl rfl); rfl
  have l1 := leaf_of h1 hc1
  obtain ⟨fr, el1, l1_w⟩ := l1.int Try.underlying3
  cases el1
  have hc2 : v2.cells.toList = [v2] := by obtain ⟨_, rfl⟩ := okWide_int Try.underlying3 (hval 2 3 v2 rfl rfl); rfl
  have l2 := leaf_of h2 hc2
  obtain ⟨dx, el2, l2_w⟩ := l2.int Try.underlying3
  cases el2
  have hc3 : v3.cells.toList = [v3] := by obtain ⟨_, rfl⟩ := okWide_int Try.underlying3 (hval 3 3 v3 rfl rfl); rfl
  have l3 := leaf_of h3 hc3
  obtain ⟨dy, el3, l3_w⟩ := l3.int Try.underlying3
  cases el3
  clear hA0 hval0
  refine Calls.mono (keyFramesMatch xs_A xs_c xs fr dx dy W xs_f xs_k xs_m) fun e W' hp => ?_
  obtain ⟨v, HL, rfl, own, rfl, rfl⟩ := hp
  have bel := own.below
  exact ⟨_, rfl, _, _, _, [], _, [], hW', trodAll_mk1 (shut_bool Try.underlying4 _), (trodAll_cons_mk (Below.trod keyFramesMatch_laidOut (by kernel_rfl) (of_decide_eq_true (by kernel_rfl)) k0 bel lt0) (trodAll_cons_mk (Below.trod keyFramesMatch_laidOut (by kernel_rfl) (of_decide_eq_true (by kernel_rfl)) k1 bel lt1) (trodAll_cons_mk (Below.trod keyFramesMatch_laidOut (by kernel_rfl) (of_decide_eq_true (by kernel_rfl)) k2 bel lt2) (trodAll_cons_mk (Below.trod keyFramesMatch_laidOut (by kernel_rfl) (of_decide_eq_true (by kernel_rfl)) k3 bel lt3) trodAll_mk0)))), rfl, bel.frame _, fun h => by cases h⟩

theorem keyFramesMatch_over : Rows.keyFramesMatchRow.holds Try.pinned (OpenSpec.ofChange Rows.keyFramesMatchSpec) :=
  OpenClaim.holds_of_wide 5 Try.f5 rfl rfl rfl rfl rfl rfl rfl ⟨rfl, rfl, rfl, rfl, rfl⟩ rfl rfl rfl rfl rfl (by kernel_rfl) Try.func5 (by kernel_rfl)
    (of_decide_eq_true (by kernel_rfl)) (by unfold Func.isWrapper; first | (rw [if_pos (by decide +kernel)]; kernel_rfl) | (rw [if_neg (by decide +kernel)]; exact ⟨rfl, rfl⟩))
    (fun os started H enc _ => keyFramesMatch_lifted os started H enc)

/-- THE STATEMENT. -/
theorem keys_holds : Rows.KeyFramesMatchSaid := keyFramesMatch_over
#print axioms keys_holds
end Go.Proofs.Ytapcgokcfmklbaa
