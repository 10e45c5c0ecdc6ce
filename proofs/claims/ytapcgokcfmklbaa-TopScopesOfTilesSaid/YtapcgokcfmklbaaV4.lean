/-
  The law TopScopesOfTiles of the given rows: at every input the call returns true and leaves its arguments as they were. Conditions: none.
-/
import Derived.Test.YtapcgokcfmklbaaV3
import Derived.Test.YtapcgokcfmklbaaRows
import Derived.WalkKit
import Derived.ProofKit
import Derived.OpenShut
import Derived.ShutString
import Derived.ChangeOld
import Derived.Below
namespace Go.Proofs.Ytapcgokcfmklbaa
open Go Go.Proofs Go.RowKit

theorem fo75_0 : fldOff Try.prog 75 0 = some (0, 29) := by kernel_rfl
theorem fo75_1 : fldOff Try.prog 75 1 = some (1, 29) := by kernel_rfl
theorem fo75_2 : fldOff Try.prog 75 2 = some (2, 3) := by kernel_rfl
theorem ok110 : callOK Try.prog 110 = true := by kernel_rfl
theorem ok137 : callOK Try.prog 137 = true := by kernel_rfl
theorem ok155 : callOK Try.prog 155 = true := by kernel_rfl

set_option maxRecDepth 100000 in
theorem small0 (x y wi he : Int) (A : Option Addr) (n c : Nat) (xs : List Nat) (W : World) (hn : xs.length = n) (hA : FS W A xs) (hlx : n ≤ maxLen) : Fn_ Try.prog 32 #[.agg #[iv x, iv y, iv wi, iv he, .slice A n c]] W (fun v H => ∃ g, v = .agg #[iv (clamp x), iv (clamp y), iv (1 + and7 wi), iv (1 + and7 he), .slice (some ⟨g, 0, none⟩) (fitN wi he) (fitN wi he)] ∧ H = [⟨g, 29, (fitV xs wi he).map flt⟩]) := by
  subst hn
  have ha1 := and7_bd wi
  have ha2 := and7_bd he
  have ha3 := mul_bd (a := 4 * (1 + and7 wi)) (b := 1 + and7 he) (by omega) (by omega) (by omega) (by omega)
  have hN : ((fitN wi he : Nat) : Int) = 4 * (1 + and7 wi) * (1 + and7 he) := by unfold fitN; omega
  unfold maxLen at hlx
  refine Fn_.intro Try.func32 rfl rfl (by rfl) ?_
  refine CS.seq ?_
  refine CS.region ?_
  refine RS.box rfl (by rfl) (by rfl) ?_
  intro g1
  refine RS.alloc rfl ty26 ?_
  intro g2
  refine RS.nil ?_
  refine thenC_n ?_
  refine CS.seq ?_
  refine CS.region ?_
  refine RS.q rfl (QO.fieldAddr fo26_0 (by rfl)) ?_
  refine RS.q rfl (QO.fieldAddr fo23_2 (by rfl)) ?_
  first | (refine RS.q rfl (QO.load ty3 (by rfl) (by repeat (first | exact List.Mem.head _ | refine List.Mem.tail _ ?_)) (by rfl)) ?_) | (refine RS.q rfl (QO.loadO ty3 (by rfl) (by assumption)) ?_) | (refine RS.q rfl (QO.load ty3 (by rfl) (by repeat (first | exact List.Mem.head _ | refine List.Mem.tail _ ?_)) (by assumption)) ?_)
  refine RS.q rfl (QO.and7 (by rfl) (by rfl)) ?_
  first | (refine RS.q rfl (QO.add (by rfl) (by rfl) (by omega) (by omega)) ?_) | (refine RS.q rfl (QO.ibin (by rfl) (by rfl) trivial) ?_)
  refine RS.q rfl (QO.fieldAddr fo26_0 (by rfl)) ?_
  refine RS.q rfl (QO.fieldAddr fo23_3 (by rfl)) ?_
  first | (refine RS.q rfl (QO.load ty3 (by rfl) (by repeat (first | exact List.Mem.head _ | refine List.Mem.tail _ ?_)) (by rfl)) ?_) | (refine RS.q rfl (QO.loadO ty3 (by rfl) (by assumption)) ?_) | (refine RS.q rfl (QO.load ty3 (by rfl) (by repeat (first | exact List.Mem.head _ | refine List.Mem.tail _ ?_)) (by assumption)) ?_)
  refine RS.q rfl (QO.and7 (by rfl) (by rfl)) ?_
  first | (refine RS.q rfl (QO.add (by rfl) (by rfl) (by omega) (by omega)) ?_) | (refine RS.q rfl (QO.ibin (by rfl) (by rfl) trivial) ?_)
  refine RS.q rfl (QO.fieldAddr fo26_0 (by rfl)) ?_
  refine RS.q rfl (QO.fieldAddr fo23_2 (by rfl)) ?_
  refine RS.store1 ty3 rfl (by rfl) (by rfl) (by rfl) (by repeat (first | exact Upd.head | apply Upd.tail)) (by first | (simp; done) | (simp; omega) | omega) ?_
  refine RS.q rfl (QO.fieldAddr fo26_0 (by rfl)) ?_
  refine RS.q rfl (QO.fieldAddr fo23_3 (by rfl)) ?_
  refine RS.store1 ty3 rfl (by rfl) (by rfl) (by rfl) (by repeat (first | exact Upd.head | apply Upd.tail)) (by first | (simp; done) | (simp; omega) | omega) ?_
  refine RS.nil ?_
  refine thenC_n ?_
  refine CS.seq ?_
  refine CS.region ?_
  refine RS.q rfl (QO.fieldAddr fo26_0 (by rfl)) ?_
  refine RS.q rfl (QO.fieldAddr fo23_0 (by rfl)) ?_
  first | (refine RS.q rfl (QO.load ty3 (by rfl) (by repeat (first | exact List.Mem.head _ | refine List.Mem.tail _ ?_)) (by rfl)) ?_) | (refine RS.q rfl (QO.loadO ty3 (by rfl) (by assumption)) ?_) | (refine RS.q rfl (QO.load ty3 (by rfl) (by repeat (first | exact List.Mem.head _ | refine List.Mem.tail _ ?_)) (by assumption)) ?_)
  refine RS.q rfl (QO.max2 (by rfl) (by rfl)) ?_
  refine RS.q rfl (QO.min2 (by rfl) (by rfl)) ?_
  refine RS.q rfl (QO.fieldAddr fo26_0 (by rfl)) ?_
  refine RS.q rfl (QO.fieldAddr fo23_1 (by rfl)) ?_
  first | (refine RS.q rfl (QO.load ty3 (by rfl) (by repeat (first | exact List.Mem.head _ | refine List.Mem.tail _ ?_)) (by rfl)) ?_) | (refine RS.q rfl (QO.loadO ty3 (by rfl) (by assumption)) ?_) | (refine RS.q rfl (QO.load ty3 (by rfl) (by repeat (first | exact List.Mem.head _ | refine List.Mem.tail _ ?_)) (by assumption)) ?_)
  refine RS.q rfl (QO.max2 (by rfl) (by rfl)) ?_
  refine RS.q rfl (QO.min2 (by rfl) (by rfl)) ?_
  refine RS.q rfl (QO.fieldAddr fo26_0 (by rfl)) ?_
  refine RS.q rfl (QO.fieldAddr fo23_0 (by rfl)) ?_
  refine RS.store1 ty3 rfl (by rfl) (by rfl) (by rfl) (by repeat (first | exact Upd.head | apply Upd.tail)) (by first | (simp; done) | (simp; omega) | omega) ?_
  refine RS.q rfl (QO.fieldAddr fo26_0 (by rfl)) ?_
  refine RS.q rfl (QO.fieldAddr fo23_1 (by rfl)) ?_
  refine RS.store1 ty3 rfl (by rfl) (by rfl) (by rfl) (by repeat (first | exact Upd.head | apply Upd.tail)) (by first | (simp; done) | (simp; omega) | omega) ?_
  refine RS.nil ?_
  refine thenC_n ?_
  refine CS.seq ?_
  refine CS.region ?_
  refine RS.q rfl (QO.fieldAddr fo26_0 (by rfl)) ?_
  refine RS.q rfl (QO.fieldAddr fo23_2 (by rfl)) ?_
  first | (refine RS.q rfl (QO.load ty3 (by rfl) (by repeat (first | exact List.Mem.head _ | refine List.Mem.tail _ ?_)) (by rfl)) ?_) | (refine RS.q rfl (QO.loadO ty3 (by rfl) (by assumption)) ?_) | (refine RS.q rfl (QO.load ty3 (by rfl) (by repeat (first | exact List.Mem.head _ | refine List.Mem.tail _ ?_)) (by assumption)) ?_)
  first | (refine RS.q rfl (QO.mul (by rfl) (by rfl) (by omega) (by omega)) ?_) | (refine RS.q rfl (QO.ibin (by rfl) (by rfl) trivial) ?_)
  refine RS.q rfl (QO.fieldAddr fo26_0 (by rfl)) ?_
  refine RS.q rfl (QO.fieldAddr fo23_3 (by rfl)) ?_
  first | (refine RS.q rfl (QO.load ty3 (by rfl) (by repeat (first | exact List.Mem.head _ | refine List.Mem.tail _ ?_)) (by rfl)) ?_) | (refine RS.q rfl (QO.loadO ty3 (by rfl) (by assumption)) ?_) | (refine RS.q rfl (QO.load ty3 (by rfl) (by repeat (first | exact List.Mem.head _ | refine List.Mem.tail _ ?_)) (by assumption)) ?_)
  first | (refine RS.q rfl (QO.mul (by rfl) (by rfl) (by omega) (by omega)) ?_) | (refine RS.q rfl (QO.ibin (by rfl) (by rfl) trivial) ?_)
  refine RS.make rfl Try.underlying24 ty29 (by rfl) (by rfl) (by omega) (by omega) (by omega) (by omega) ?_
  intro gv
  refine RS.q rfl (QO.assign) ?_
  refine RS.nil ?_
  refine thenC_n ?_
  refine CS.seq ?_
  refine CS.seq ?_
  refine CS.region ?_
  refine RS.q rfl (QO.move) ?_
  refine RS.q rfl (QO.lenS Try.underlying24 (by rfl)) ?_
  refine RS.q rfl (QO.move) ?_
  refine RS.nil ?_
  refine thenC_n ?_
  refine CS.block ?_
  refine CS.loop (X := Nat) (4 :: 44 :: 45 :: 46 :: 47 :: 48 :: 49 :: 50 :: 51 :: 52 :: 53 :: 54 :: 55 :: 56 :: 57 :: 58 :: 59 :: 60 :: 61 :: 62 :: 63 :: []) (fun k => [(44, iv k)]) (fun k => [⟨gv, 29, fitL xs (fitN wi he) k⟩, ⟨g2, 26, [iv 0, iv 0, iv 0, iv 0, .slice none 0 0]⟩, ⟨g1, 26, [iv (clamp x), iv (clamp y), iv (1 + and7 wi), iv (1 + and7 he), .slice A xs.length c]⟩]) (fun k => k ≤ fitN wi he) (fun k => fitN wi he - k) 0 (Nat.zero_le _) ?_ ?_ ?_
  · exact (by repeat (first | exact kn_nil | refine kn_cons (by rfl) ?_))
  · exact (by rw [fitL_zero]; exact (by repeat (first | exact List.Sublist.refl _ | exact List.nil_sublist _ | refine List.Sublist.cons_cons _ ?_ | refine List.Sublist.cons _ ?_ | exact Sbp.refl | exact Sbp.nil | refine Sbp.cons (by repeat (first | exact Rem.head | apply Rem.tail)) ?_ | exact Sbp.app | refine Sbp.skip ?_ | exact List.sublist_append_left _ _ | exact List.sublist_append_right _ _)))
  · intro k gj5 hz
    refine CS.seq ?_
    refine CS.region ?_
    refine RS.q rfl (QO.lss (by rfl) (by rfl)) ?_
    refine RS.nil ?_
    refine thenC_n ?_
    refine CS.seq ?_
    refine CS.cond (by rfl) (fun hb0 => ?_) (fun hb0 => ?_)
    · have hb0p := of_decide_eq_true hb0
      refine CS.skip ?_
      refine thenC_n ?_
      refine CS.seq ?_
      refine CS.block ?_
      refine CS.seq ?_
      refine CS.region ?_
      refine RS.q rfl (QO.move) ?_
      refine RS.q rfl (QO.assign) ?_
      refine RS.nil ?_
      refine thenC_n ?_
      refine CS.seq ?_
      refine CS.region ?_
      refine RS.q rfl (QO.fieldAddr fo26_1 (by rfl)) ?_
      first | (refine RS.q rfl (QO.load ty24 (by rfl) (by repeat (first | exact List.Mem.head _ | refine List.Mem.tail _ ?_)) (by rfl)) ?_) | (refine RS.q rfl (QO.loadO ty24 (by rfl) (by assumption)) ?_) | (refine RS.q rfl (QO.load ty24 (by rfl) (by repeat (first | exact List.Mem.head _ | refine List.Mem.tail _ ?_)) (by assumption)) ?_)
      refine RS.q rfl (QO.lenS Try.underlying24 (by rfl)) ?_
      refine RS.q rfl (QO.gtr (by rfl) (by rfl)) ?_
      refine RS.nil ?_
      refine thenC_n ?_
      refine CS.cond (by rfl) (fun hb1 => ?_) (fun hb1 => ?_)
      · have hb1p := of_decide_eq_true hb1
        refine CS.draw 12 rfl (by kernel_rfl) (by kernel_rfl) ?_
        obtain ⟨bA, oA, rfl, hcell⟩ := hA (by omega)
        have hlt : k % xs.length < xs.length := Nat.mod_lt _ (by omega)
        refine RT.take (i := 0) rfl (by kernel_rfl) rfl (QO.move) ?_
        refine RT.take (i := 1) rfl (by kernel_rfl) rfl (QO.move) ?_
        refine RT.take (i := 2) rfl (by kernel_rfl) rfl (QO.fieldAddr fo26_1 (by rfl)) ?_
        first | (refine RT.take (i := 3) rfl (by kernel_rfl) rfl (QO.load ty24 (by rfl) (by repeat (first | exact List.Mem.head _ | refine List.Mem.tail _ ?_)) (by rfl)) ?_) | (refine RT.take (i := 3) rfl (by kernel_rfl) rfl (QO.loadO ty24 (by rfl) (by assumption)) ?_) | (refine RT.take (i := 3) rfl (by kernel_rfl) rfl (QO.load ty24 (by rfl) (by repeat (first | exact List.Mem.head _ | refine List.Mem.tail _ ?_)) (by assumption)) ?_)
        refine RT.take (i := 4) rfl (by kernel_rfl) rfl (QO.move) ?_
        refine RT.take (i := 5) rfl (by kernel_rfl) rfl (QO.fieldAddr fo26_1 (by rfl)) ?_
        first | (refine RT.take (i := 6) rfl (by kernel_rfl) rfl (QO.load ty24 (by rfl) (by repeat (first | exact List.Mem.head _ | refine List.Mem.tail _ ?_)) (by rfl)) ?_) | (refine RT.take (i := 6) rfl (by kernel_rfl) rfl (QO.loadO ty24 (by rfl) (by assumption)) ?_) | (refine RT.take (i := 6) rfl (by kernel_rfl) rfl (QO.load ty24 (by rfl) (by repeat (first | exact List.Mem.head _ | refine List.Mem.tail _ ?_)) (by assumption)) ?_)
        refine RT.take (i := 7) rfl (by kernel_rfl) rfl (QO.lenS Try.underlying24 (by rfl)) ?_
        refine RT.takev (i := 8) rfl (by kernel_rfl) rfl (QO.rem (by rfl) (by rfl) (by omega)) (congrArg iv (tmod_cast k xs.length)) ?_
        first | (refine RT.take (i := 9) rfl (by kernel_rfl) rfl (QO.idx0 Try.underlying24 ty29 (by rfl) (by rfl) (by rfl) (by omega)) ?_) | (refine RT.take (i := 9) rfl (by kernel_rfl) rfl (QO.idxn Try.underlying24 ty29 (by rfl) (by rfl) (by rfl) (by omega)) ?_) | (refine RT.take (i := 9) rfl (by kernel_rfl) rfl (QO.idx1 Try.underlying24 ty29 (by rfl) (by rfl) (by omega) (by omega)) ?_)
        refine RT.take (i := 10) rfl (by kernel_rfl) rfl (QO.loadO ty29 (by rfl) (hcell _ _ (List.getElem?_eq_getElem hlt))) ?_
        first | (refine RT.take (i := 11) rfl (by kernel_rfl) rfl (QO.idx0 Try.underlying24 ty29 (by rfl) (by rfl) (by rfl) (by omega)) ?_) | (refine RT.take (i := 11) rfl (by kernel_rfl) rfl (QO.idxn Try.underlying24 ty29 (by rfl) (by rfl) (by rfl) (by omega)) ?_) | (refine RT.take (i := 11) rfl (by kernel_rfl) rfl (QO.idx1 Try.underlying24 ty29 (by rfl) (by rfl) (by omega) (by omega)) ?_)
        refine RT.tail (i := 12) (by kernel_rfl) rfl rfl ?_
        refine RS.store1e ty29 rfl (by rfl) (by rfl) (by rfl) (fitL_set' xs (fitN wi he) k _ (fitv_at _ _ hlt) (by omega)) (by repeat (first | exact Upd.head | apply Upd.tail)) (by rw [fitL_len]; omega) ?_
        refine RS.nil ?_
        refine RT.done (by kernel_rfl) ?_
        refine blockC_n ?_
        refine thenC_n ?_
        refine CS.region ?_
        first | (refine RS.q rfl (QO.add (by rfl) (by rfl) (by omega) (by omega)) ?_) | (refine RS.q rfl (QO.ibin (by rfl) (by rfl) trivial) ?_)
        refine RS.q rfl (QO.move) ?_
        refine RS.nil ?_
        refine loopQ_n (by intro t ht; repeat (first | with_reducible exact rfl | exact frame_puts ht (frame_mix ht) _ rfl | (refine frame_put rfl ht ?_) | (refine frame_puts ht ?_ _ rfl) | exact frame_mix ht | (refine frame_mix2 rfl ht ?_) | exact rfl)) ?_
        exact ⟨k + 1, by omega, by omega, (by repeat (first | exact kn_nil | refine kn_cons (by rfl) ?_)), (by repeat (first | exact List.Sublist.refl _ | exact List.nil_sublist _ | refine List.Sublist.cons_cons _ ?_ | refine List.Sublist.cons _ ?_ | exact Sbp.refl | exact Sbp.nil | refine Sbp.cons (by repeat (first | exact Rem.head | apply Rem.tail)) ?_ | exact Sbp.app | refine Sbp.skip ?_ | exact List.sublist_append_left _ _ | exact List.sublist_append_right _ _))⟩
      · have hb1p := of_decide_eq_false hb1
        refine CS.skip ?_
        refine blockC_n ?_
        refine thenC_n ?_
        refine CS.region ?_
        first | (refine RS.q rfl (QO.add (by rfl) (by rfl) (by omega) (by omega)) ?_) | (refine RS.q rfl (QO.ibin (by rfl) (by rfl) trivial) ?_)
        refine RS.q rfl (QO.move) ?_
        refine RS.nil ?_
        refine loopQ_n (by intro t ht; repeat (first | with_reducible exact rfl | exact frame_puts ht (frame_mix ht) _ rfl | (refine frame_put rfl ht ?_) | (refine frame_puts ht ?_ _ rfl) | exact frame_mix ht | (refine frame_mix2 rfl ht ?_) | exact rfl)) ?_
        exact ⟨k + 1, by omega, by omega, (by repeat (first | exact kn_nil | refine kn_cons (by rfl) ?_)), (by rw [← fitL_skip _ _ _ (by omega)]; exact (by repeat (first | exact List.Sublist.refl _ | exact List.nil_sublist _ | refine List.Sublist.cons_cons _ ?_ | refine List.Sublist.cons _ ?_ | exact Sbp.refl | exact Sbp.nil | refine Sbp.cons (by repeat (first | exact Rem.head | apply Rem.tail)) ?_ | exact Sbp.app | refine Sbp.skip ?_ | exact List.sublist_append_left _ _ | exact List.sublist_append_right _ _)))⟩
    · have hb0p := of_decide_eq_false hb0
      refine CS.exit ?_
      refine thenC_x ?_
      refine loopQ_x ?_
      refine blockC_x ?_
      refine thenC_n ?_
      refine CS.seq ?_
      refine CS.region ?_
      refine RS.q rfl (QO.move) ?_
      refine RS.q rfl (QO.fieldAddr fo26_1 (by rfl)) ?_
      refine RS.store1 ty24 rfl (by rfl) (by rfl) (by rfl) (by repeat (first | exact Upd.head | apply Upd.tail)) (by first | (simp; done) | (simp; omega) | omega) ?_
      refine RS.nil ?_
      refine thenC_n ?_
      refine CS.seq ?_
      refine CS.region ?_
      first | (refine RS.q rfl (QO.loadB ty26 (by rfl) (by repeat (first | exact List.Mem.head _ | refine List.Mem.tail _ ?_)) (by rfl)) ?_) | (refine RS.q rfl (QO.loadA ty26 (by rfl) (by repeat (first | exact List.Mem.head _ | refine List.Mem.tail _ ?_)) (by rfl) (by rfl)) ?_) | (refine RS.q rfl (QO.loadOA ty26 (by rfl) (by assumption) (by rfl)) ?_)
      first | refine RS.storeB ty26 (by rfl) (by rfl) (by rfl) (by rfl) (by rfl) (by repeat (first | exact Upd.head | apply Upd.tail)) (by rfl) ?_ | refine RS.storeP ty26 (by rfl) (by rfl) (by rfl) (by rfl) (by rfl) (by repeat (first | exact Upd.head | apply Upd.tail)) (by rfl) ?_
      refine RS.nil ?_
      refine thenC_n ?_
      refine CS.ret ?_
      refine retQ.mk (H' := [⟨gv, 29, (fitV xs wi he).map flt⟩]) (.inr rfl) (RVs.cellA ty26 (by rfl) (by repeat (first | exact List.Mem.head _ | refine List.Mem.tail _ ?_)) (by rfl) RVs.nil) (by obtain rfl : k = fitN wi he := (by omega); rw [fitL_full]; exact (by repeat (first | exact List.Sublist.refl _ | exact List.nil_sublist _ | refine List.Sublist.cons_cons _ ?_ | refine List.Sublist.cons _ ?_ | exact Sbp.refl | exact Sbp.nil | refine Sbp.cons (by repeat (first | exact Rem.head | apply Rem.tail)) ?_ | exact Sbp.app | refine Sbp.skip ?_ | exact List.sublist_append_left _ _ | exact List.sublist_append_right _ _))) ?_
      exact ⟨gv, rfl, rfl⟩

theorem small_ (x y wi he : Int) (A : Option Addr) (n c : Nat) (xs : List Nat) (W : World) (hn : xs.length = n) (hA : FS W A xs) (hlx : n ≤ maxLen) : Fn_ Try.prog 32 #[.agg #[iv x, iv y, iv wi, iv he, .slice A n c]] W (fun v H =>
    ∃ (g : Nat) (X Y : Int) (a b : Nat) (ys : List Nat), v = .agg #[iv X, iv Y, iv (a : Int), iv (b : Int), .slice (some ⟨g, 0, none⟩) ys.length ys.length] ∧ H = [⟨g, 29, ys.map flt⟩] ∧
      ys.length = 4 * (a * b) ∧ (1 ≤ a ∧ a ≤ 8) ∧ (1 ≤ b ∧ b ≤ 8) ∧ (-1000 ≤ X ∧ X ≤ 1000) ∧ (-1000 ≤ Y ∧ Y ≤ 1000) ∧ a * b ≤ 64) := by
  refine (small0 x y wi he A n c xs W hn hA hlx).mono fun v H h => ?_
  obtain ⟨g, rfl, rfl⟩ := h
  have h1 := and7_bd wi
  have h2 := and7_bd he
  have h3 := clamp_bd x
  have h4 := clamp_bd y
  obtain ⟨a, ha⟩ : ∃ a : Nat, 1 + and7 wi = (a : Int) := ⟨(1 + and7 wi).toNat, by omega⟩
  obtain ⟨b, hb⟩ : ∃ b : Nat, 1 + and7 he = (b : Int) := ⟨(1 + and7 he).toNat, by omega⟩
  have h7 := fitN_eq wi he
  have h6 : ((a * b : Nat) : Int) = (a : Int) * (b : Int) := Int.natCast_mul ..
  have h8 : fitN wi he = 4 * (a * b) := by rw [ha, hb] at h7; omega
  have h9 : a * b ≤ 64 := by rw [ha, hb] at h7; omega
  refine ⟨g, clamp x, clamp y, a, b, fitV xs wi he, ?_, rfl, by rw [fitV_len, h8], by omega, by omega, by omega, by omega, h9⟩
  rw [fitV_len, ha, hb]

set_option maxRecDepth 100000 in
theorem checkBins (lo hi : Nat) (M : Int) (W : World) : Fn_ Try.prog 91 #[.agg #[flt lo, flt hi, iv M]] W (fun v H => v = iv (bnE lo hi M) ∧ H = []) := by
  refine Fn_.intro Try.func91 rfl rfl (by rfl) ?_
  refine CS.seq ?_
  refine CS.region ?_
  refine RS.box rfl (by rfl) (by rfl) ?_
  intro g1
  refine RS.q rfl (QO.assign) ?_
  refine RS.nil ?_
  refine thenC_n ?_
  refine CS.seq ?_
  refine CS.block ?_
  refine CS.seq ?_
  refine CS.region ?_
  refine RS.q rfl (QO.fieldAddr fo75_0 (by rfl)) ?_
  first | (refine RS.q rfl (QO.load ty29 (by rfl) (by repeat (first | exact List.Mem.head _ | refine List.Mem.tail _ ?_)) (by rfl)) ?_) | (refine RS.q rfl (QO.loadO ty29 (by rfl) (by assumption)) ?_) | (refine RS.q rfl (QO.load ty29 (by rfl) (by repeat (first | exact List.Mem.head _ | refine List.Mem.tail _ ?_)) (by assumption)) ?_)
  refine RS.q rfl (QO.fieldAddr fo75_1 (by rfl)) ?_
  first | (refine RS.q rfl (QO.load ty29 (by rfl) (by repeat (first | exact List.Mem.head _ | refine List.Mem.tail _ ?_)) (by rfl)) ?_) | (refine RS.q rfl (QO.loadO ty29 (by rfl) (by assumption)) ?_) | (refine RS.q rfl (QO.load ty29 (by rfl) (by repeat (first | exact List.Mem.head _ | refine List.Mem.tail _ ?_)) (by assumption)) ?_)
  refine RS.buildSlice rfl Try.underlying24 ty29 (by decide) (by decide) (by rfl) (by rfl) ?_
  intro g8
  refine RS.call rfl (by rfl) ok128 (by rfl) (fun w ho => allNumbers (some ⟨g8, 0, none⟩) 2 2 [lo, hi] _ rfl (FS.blk' (xs := [lo, hi]) ho (by repeat (first | exact List.Mem.head _ | refine List.Mem.tail _ ?_))) (by decide)) ?_
  rintro _ _ ⟨rfl, rfl⟩
  refine RS.q rfl (QO.not (by rfl)) ?_
  refine RS.q rfl (QO.assign) ?_
  refine RS.nil ?_
  refine thenC_n ?_
  refine CS.cond (by rfl) (fun hb0 => ?_) (fun hb0 => ?_)
  · have hb0p := Eq.mp (Bool.not_eq_true' _) hb0
    refine CS.seq ?_
    refine CS.region ?_
    refine RS.q rfl (QO.assign) ?_
    refine RS.nil ?_
    refine thenC_n ?_
    refine CS.ret ?_
    refine blockC_r ?_
    refine thenC_r ?_
    refine retQ.mk (H' := []) (.inr rfl) (RVs.tmp (by rfl) RVs.nil) (List.nil_sublist _) ?_
    first | exact ⟨congrArg iv (bnE_1 (by assumption)), rfl⟩ | exact ⟨congrArg iv (bnE_2 (by assumption) (by assumption)), rfl⟩ | exact ⟨congrArg iv (bnE_3 (by assumption) (by assumption) (by omega)), rfl⟩ | exact ⟨congrArg iv (bnE_0 (by assumption) (by assumption) (by omega)), rfl⟩
  · have hb0p := Eq.mp (Bool.not_eq_false' _) hb0
    refine CS.seq ?_
    refine CS.region ?_
    refine RS.q rfl (QO.fieldAddr fo75_0 (by rfl)) ?_
    first | (refine RS.q rfl (QO.load ty29 (by rfl) (by repeat (first | exact List.Mem.head _ | refine List.Mem.tail _ ?_)) (by rfl)) ?_) | (refine RS.q rfl (QO.loadO ty29 (by rfl) (by assumption)) ?_) | (refine RS.q rfl (QO.load ty29 (by rfl) (by repeat (first | exact List.Mem.head _ | refine List.Mem.tail _ ?_)) (by assumption)) ?_)
    refine RS.q rfl (QO.fieldAddr fo75_1 (by rfl)) ?_
    first | (refine RS.q rfl (QO.load ty29 (by rfl) (by repeat (first | exact List.Mem.head _ | refine List.Mem.tail _ ?_)) (by rfl)) ?_) | (refine RS.q rfl (QO.loadO ty29 (by rfl) (by assumption)) ?_) | (refine RS.q rfl (QO.load ty29 (by rfl) (by repeat (first | exact List.Mem.head _ | refine List.Mem.tail _ ?_)) (by assumption)) ?_)
    refine RS.q rfl (QO.fcmp32 (by rfl) (by rfl) (by simp)) ?_
    refine RS.q rfl (QO.not (by rfl)) ?_
    refine RS.q rfl (QO.assign) ?_
    refine RS.nil ?_
    refine thenC_n ?_
    refine CS.cond (by rfl) (fun hb1 => ?_) (fun hb1 => ?_)
    · have hb1p := Eq.mp (Bool.not_eq_true' _) hb1
      refine CS.seq ?_
      refine CS.region ?_
      refine RS.q rfl (QO.assign) ?_
      refine RS.nil ?_
      refine thenC_n ?_
      refine CS.ret ?_
      refine blockC_r ?_
      refine thenC_r ?_
      refine retQ.mk (H' := []) (.inr rfl) (RVs.tmp (by rfl) RVs.nil) (List.nil_sublist _) ?_
      first | exact ⟨congrArg iv (bnE_1 (by assumption)), rfl⟩ | exact ⟨congrArg iv (bnE_2 (by assumption) (by assumption)), rfl⟩ | exact ⟨congrArg iv (bnE_3 (by assumption) (by assumption) (by omega)), rfl⟩ | exact ⟨congrArg iv (bnE_0 (by assumption) (by assumption) (by omega)), rfl⟩
    · have hb1p := Eq.mp (Bool.not_eq_false' _) hb1
      refine CS.seq ?_
      refine CS.region ?_
      refine RS.q rfl (QO.fieldAddr fo75_2 (by rfl)) ?_
      first | (refine RS.q rfl (QO.load ty3 (by rfl) (by repeat (first | exact List.Mem.head _ | refine List.Mem.tail _ ?_)) (by rfl)) ?_) | (refine RS.q rfl (QO.loadO ty3 (by rfl) (by assumption)) ?_) | (refine RS.q rfl (QO.load ty3 (by rfl) (by repeat (first | exact List.Mem.head _ | refine List.Mem.tail _ ?_)) (by assumption)) ?_)
      refine RS.q rfl (QO.lss (by rfl) (by rfl)) ?_
      refine RS.q rfl (QO.move) ?_
      refine RS.split (dj := 22) (by rfl) (fun hb2 => ?_) (fun hb2 => ?_)
      · have hb2p := of_decide_eq_true hb2
        refine RS.off (dj := 22) rfl (.inl (congrArg Value.bool hb2)) (fun _ => rfl) rfl ?_
        refine RS.off (dj := 22) rfl (.inl (congrArg Value.bool hb2)) (fun _ => rfl) rfl ?_
        refine RS.off (dj := 22) rfl (.inl (congrArg Value.bool hb2)) (fun _ => rfl) rfl ?_
        refine RS.q rfl (QO.pickT (by rfl) hb2 (by rfl)) ?_
        refine RS.q rfl (QO.assign) ?_
        refine RS.nil ?_
        refine thenC_n ?_
        refine CS.condT (by rfl) rfl ?_
        refine CS.seq ?_
        refine CS.region ?_
        refine RS.q rfl (QO.assign) ?_
        refine RS.nil ?_
        refine thenC_n ?_
        refine CS.ret ?_
        refine blockC_r ?_
        refine thenC_r ?_
        refine retQ.mk (H' := []) (.inr rfl) (RVs.tmp (by rfl) RVs.nil) (List.nil_sublist _) ?_
        first | exact ⟨congrArg iv (bnE_1 (by assumption)), rfl⟩ | exact ⟨congrArg iv (bnE_2 (by assumption) (by assumption)), rfl⟩ | exact ⟨congrArg iv (bnE_3 (by assumption) (by assumption) (by omega)), rfl⟩ | exact ⟨congrArg iv (bnE_0 (by assumption) (by assumption) (by omega)), rfl⟩
      · have hb2p := of_decide_eq_false hb2
        refine RS.on (dj := 22) rfl (congrArg Value.bool hb2) ?_
        refine RS.q rfl (QO.fieldAddr fo75_2 (by rfl)) ?_
        refine RS.on (dj := 22) rfl (congrArg Value.bool hb2) ?_
        first | (refine RS.q rfl (QO.load ty3 (by rfl) (by repeat (first | exact List.Mem.head _ | refine List.Mem.tail _ ?_)) (by rfl)) ?_) | (refine RS.q rfl (QO.loadO ty3 (by rfl) (by assumption)) ?_) | (refine RS.q rfl (QO.load ty3 (by rfl) (by repeat (first | exact List.Mem.head _ | refine List.Mem.tail _ ?_)) (by assumption)) ?_)
        refine RS.on (dj := 22) rfl (congrArg Value.bool hb2) ?_
        refine RS.q rfl (QO.gtr (by rfl) (by rfl)) ?_
        refine RS.q rfl (QO.pickF (by rfl) hb2 (by rfl)) ?_
        refine RS.q rfl (QO.assign) ?_
        refine RS.nil ?_
        refine thenC_n ?_
        refine CS.cond (by rfl) (fun hb3 => ?_) (fun hb3 => ?_)
        · have hb3p := of_decide_eq_true hb3
          refine CS.seq ?_
          refine CS.region ?_
          refine RS.q rfl (QO.assign) ?_
          refine RS.nil ?_
          refine thenC_n ?_
          refine CS.ret ?_
          refine blockC_r ?_
          refine thenC_r ?_
          refine retQ.mk (H' := []) (.inr rfl) (RVs.tmp (by rfl) RVs.nil) (List.nil_sublist _) ?_
          first | exact ⟨congrArg iv (bnE_1 (by assumption)), rfl⟩ | exact ⟨congrArg iv (bnE_2 (by assumption) (by assumption)), rfl⟩ | exact ⟨congrArg iv (bnE_3 (by assumption) (by assumption) (by omega)), rfl⟩ | exact ⟨congrArg iv (bnE_0 (by assumption) (by assumption) (by omega)), rfl⟩
        · have hb3p := of_decide_eq_false hb3
          refine CS.skip ?_
          refine blockC_n ?_
          refine thenC_n ?_
          refine CS.seq ?_
          refine CS.region ?_
          refine RS.q rfl (QO.assign) ?_
          refine RS.nil ?_
          refine thenC_n ?_
          refine CS.ret ?_
          refine retQ.mk (H' := []) (.inr rfl) (RVs.tmp (by rfl) RVs.nil) (List.nil_sublist _) ?_
          first | exact ⟨congrArg iv (bnE_1 (by assumption)), rfl⟩ | exact ⟨congrArg iv (bnE_2 (by assumption) (by assumption)), rfl⟩ | exact ⟨congrArg iv (bnE_3 (by assumption) (by assumption) (by omega)), rfl⟩ | exact ⟨congrArg iv (bnE_0 (by assumption) (by assumption) (by omega)), rfl⟩

theorem flX {x : Nat} (h : ¬ isNanD (Ieee.double.read x)) (w : World) : (callFunc 170 [Value.float .f64 x].toArray).run Try.prog w = .ok (.value (.float .f64 (flD x))) w := by
  have h1 := fl_run h "math.archFloor" Try.prog w
  have e : (callFunc 170 [Value.float .f64 x].toArray).run Try.prog w = (do let v ← Extern.MathFloor.toIntegral "math.archFloor" .down #[.float .f64 x]; pure (Next.value v) : Sem Next).run Try.prog w := by kernel_rfl
  rw [e, Sem.run_bind, h1]; rfl

set_option maxRecDepth 100000 in
theorem mfloor (d : Nat) (W : World) (h : ¬ isNanD (Ieee.double.read d)) : Fn_ Try.prog 155 #[.float .f64 d] W (fun v H => v = .float .f64 (flD d) ∧ H = []) := by
  refine Fn_.intro Try.func155 rfl rfl (by rfl) ?_
  refine CS.seq ?_
  refine CS.region ?_
  refine RS.q rfl (QO.assign) ?_
  refine RS.nil ?_
  refine thenC_n ?_
  refine CS.seq ?_
  refine CS.condT (by rfl) rfl ?_
  refine CS.seq ?_
  refine CS.region ?_
  refine RS.q rfl (QO.move) ?_
  refine RS.q rfl (QO.ext (by rfl) (fun w => flX h w)) ?_
  refine RS.q rfl (QO.assign) ?_
  refine RS.nil ?_
  refine thenC_n ?_
  refine CS.ret ?_
  refine thenC_r ?_
  refine retQ.mk (H' := []) (.inr rfl) (RVs.tmp (by rfl) RVs.nil) (List.nil_sublist _) ?_
  exact ⟨rfl, rfl⟩

set_option maxRecDepth 100000 in
theorem floor_ (t d r : Nat) (W : World) (h1 : floatToFloatBits .f32 t .f64 = some d) (h2 : ¬ isNanD (Ieee.double.read d)) (h3 : floatToFloatBits .f64 (flD d) .f32 = some r) : Fn_ Try.prog 137 #[flt t] W (fun v H => v = flt r ∧ H = []) := by
  refine Fn_.intro Try.func137 rfl rfl (by rfl) ?_
  refine CS.seq ?_
  refine CS.region ?_
  refine RS.q rfl (QO.assign) ?_
  refine RS.nil ?_
  refine thenC_n ?_
  refine CS.seq ?_
  refine CS.region ?_
  refine RS.q rfl (QO.move) ?_
  refine RS.q rfl (QO.conv_ff (s := .f32) (k := .f64) (by rw [Try.underlying29]; rfl) Try.underlying181 (by rfl) h1) ?_
  refine RS.call rfl (by rfl) ok155 (by rfl) (fun w ho => mfloor d _ h2) ?_
  rintro _ _ ⟨rfl, rfl⟩
  refine RS.q rfl (QO.conv_ff (s := .f64) (k := .f32) (by rw [Try.underlying181]; rfl) Try.underlying29 (by rfl) h3) ?_
  refine RS.q rfl (QO.assign) ?_
  refine RS.nil ?_
  refine thenC_n ?_
  refine CS.ret ?_
  refine retQ.mk (H' := []) (.inr rfl) (RVs.tmp (by rfl) RVs.nil) (List.nil_sublist _) ?_
  exact ⟨rfl, rfl⟩

set_option maxHeartbeats 4000000 in
set_option maxRecDepth 100000 in
theorem bin_ (lo hi u : Nat) (M : Int) (W : World) (hb : okB lo hi M) : Fn_ Try.prog 92 #[.agg #[flt lo, flt hi, iv M], flt u] W (fun v H => v = iv (binV lo hi M u) ∧ H = []) := by
  have hM := hb.2.2.2.1
  have hM2 := hb.2.2.2.2
  refine Fn_.intro Try.func92 rfl rfl (by rfl) ?_
  refine CS.seq ?_
  refine CS.region ?_
  refine RS.box rfl (by rfl) (by rfl) ?_
  intro g2
  refine RS.q rfl (QO.assign) ?_
  refine RS.nil ?_
  refine thenC_n ?_
  refine CS.seq ?_
  refine CS.block ?_
  refine CS.seq ?_
  refine CS.region ?_
  refine RS.q rfl (QO.move) ?_
  refine RS.q rfl (QO.move) ?_
  refine RS.qv rfl (QO.fcmp32 (by rfl) (by rfl) (by simp)) (congrArg Value.bool (fneq_self u)) ?_
  refine RS.q rfl (QO.assign) ?_
  refine RS.nil ?_
  refine thenC_n ?_
  refine CS.cond (by rfl) (fun hb0 => ?_) (fun hb0 => ?_)
  · refine CS.seq ?_
    refine CS.region ?_
    refine RS.q rfl (QO.assign) ?_
    refine RS.nil ?_
    refine thenC_n ?_
    refine CS.ret ?_
    refine blockC_r ?_
    refine thenC_r ?_
    refine retQ.mk (H' := []) (.inr rfl) (RVs.tmp (by rfl) RVs.nil) (List.nil_sublist _) ?_
    first | exact ⟨congrArg iv (binV_1 (by assumption)), rfl⟩ | exact ⟨congrArg iv (binV_2 (by assumption) (by assumption)), rfl⟩ | exact ⟨congrArg iv (binV_3 (by assumption) (by assumption) (by assumption)), rfl⟩ | exact ⟨congrArg iv (binV_4 (by assumption) (by assumption) (by assumption) (tB_cmp (tB_is hr25 hr30 hr31 hr35) (by assumption))), rfl⟩ | exact ⟨congrArg iv (binV_5 (by assumption) (by assumption) (by assumption) hlt), rfl⟩
  · refine CS.seq ?_
    refine CS.region ?_
    refine RS.q rfl (QO.move) ?_
    refine RS.q rfl (QO.fieldAddr fo75_0 (by rfl)) ?_
    first | (refine RS.q rfl (QO.load ty29 (by rfl) (by repeat (first | exact List.Mem.head _ | refine List.Mem.tail _ ?_)) (by rfl)) ?_) | (refine RS.q rfl (QO.loadO ty29 (by rfl) (by assumption)) ?_) | (refine RS.q rfl (QO.load ty29 (by rfl) (by repeat (first | exact List.Mem.head _ | refine List.Mem.tail _ ?_)) (by assumption)) ?_)
    refine RS.q rfl (QO.fcmp32 (by rfl) (by rfl) (by simp)) ?_
    refine RS.q rfl (QO.assign) ?_
    refine RS.nil ?_
    refine thenC_n ?_
    refine CS.cond (by rfl) (fun hb1 => ?_) (fun hb1 => ?_)
    · refine CS.seq ?_
      refine CS.region ?_
      refine RS.q rfl (QO.assign) ?_
      refine RS.nil ?_
      refine thenC_n ?_
      refine CS.ret ?_
      refine blockC_r ?_
      refine thenC_r ?_
      refine retQ.mk (H' := []) (.inr rfl) (RVs.tmp (by rfl) RVs.nil) (List.nil_sublist _) ?_
      first | exact ⟨congrArg iv (binV_1 (by assumption)), rfl⟩ | exact ⟨congrArg iv (binV_2 (by assumption) (by assumption)), rfl⟩ | exact ⟨congrArg iv (binV_3 (by assumption) (by assumption) (by assumption)), rfl⟩ | exact ⟨congrArg iv (binV_4 (by assumption) (by assumption) (by assumption) (tB_cmp (tB_is hr25 hr30 hr31 hr35) (by assumption))), rfl⟩ | exact ⟨congrArg iv (binV_5 (by assumption) (by assumption) (by assumption) hlt), rfl⟩
    · refine CS.seq ?_
      refine CS.region ?_
      refine RS.q rfl (QO.move) ?_
      refine RS.q rfl (QO.fieldAddr fo75_1 (by rfl)) ?_
      first | (refine RS.q rfl (QO.load ty29 (by rfl) (by repeat (first | exact List.Mem.head _ | refine List.Mem.tail _ ?_)) (by rfl)) ?_) | (refine RS.q rfl (QO.loadO ty29 (by rfl) (by assumption)) ?_) | (refine RS.q rfl (QO.load ty29 (by rfl) (by repeat (first | exact List.Mem.head _ | refine List.Mem.tail _ ?_)) (by assumption)) ?_)
      refine RS.q rfl (QO.fcmp32 (by rfl) (by rfl) (by simp)) ?_
      refine RS.q rfl (QO.assign) ?_
      refine RS.nil ?_
      refine thenC_n ?_
      refine CS.cond (by rfl) (fun hb2 => ?_) (fun hb2 => ?_)
      · refine CS.seq ?_
        refine CS.region ?_
        refine RS.q rfl (QO.fieldAddr fo75_2 (by rfl)) ?_
        first | (refine RS.q rfl (QO.load ty3 (by rfl) (by repeat (first | exact List.Mem.head _ | refine List.Mem.tail _ ?_)) (by rfl)) ?_) | (refine RS.q rfl (QO.loadO ty3 (by rfl) (by assumption)) ?_) | (refine RS.q rfl (QO.load ty3 (by rfl) (by repeat (first | exact List.Mem.head _ | refine List.Mem.tail _ ?_)) (by assumption)) ?_)
        refine RS.q rfl (QO.assign) ?_
        refine RS.nil ?_
        refine thenC_n ?_
        refine CS.ret ?_
        refine blockC_r ?_
        refine thenC_r ?_
        refine retQ.mk (H' := []) (.inr rfl) (RVs.tmp (by rfl) RVs.nil) (List.nil_sublist _) ?_
        first | exact ⟨congrArg iv (binV_1 (by assumption)), rfl⟩ | exact ⟨congrArg iv (binV_2 (by assumption) (by assumption)), rfl⟩ | exact ⟨congrArg iv (binV_3 (by assumption) (by assumption) (by assumption)), rfl⟩ | exact ⟨congrArg iv (binV_4 (by assumption) (by assumption) (by assumption) (tB_cmp (tB_is hr25 hr30 hr31 hr35) (by assumption))), rfl⟩ | exact ⟨congrArg iv (binV_5 (by assumption) (by assumption) (by assumption) hlt), rfl⟩
      · refine CS.skip ?_
        refine blockC_n ?_
        refine thenC_n ?_
        refine CS.seq ?_
        refine CS.region ?_
        refine RS.q rfl (QO.move) ?_
        refine RS.q rfl (QO.fieldAddr fo75_0 (by rfl)) ?_
        first | (refine RS.q rfl (QO.load ty29 (by rfl) (by repeat (first | exact List.Mem.head _ | refine List.Mem.tail _ ?_)) (by rfl)) ?_) | (refine RS.q rfl (QO.loadO ty29 (by rfl) (by assumption)) ?_) | (refine RS.q rfl (QO.load ty29 (by rfl) (by repeat (first | exact List.Mem.head _ | refine List.Mem.tail _ ?_)) (by assumption)) ?_)
        refine RS.farith rfl (by rfl) (by rfl) (by simp) ?_
        intro r25 hr25
        refine RS.q rfl (QO.fieldAddr fo75_1 (by rfl)) ?_
        first | (refine RS.q rfl (QO.load ty29 (by rfl) (by repeat (first | exact List.Mem.head _ | refine List.Mem.tail _ ?_)) (by rfl)) ?_) | (refine RS.q rfl (QO.loadO ty29 (by rfl) (by assumption)) ?_) | (refine RS.q rfl (QO.load ty29 (by rfl) (by repeat (first | exact List.Mem.head _ | refine List.Mem.tail _ ?_)) (by assumption)) ?_)
        refine RS.q rfl (QO.fieldAddr fo75_0 (by rfl)) ?_
        first | (refine RS.q rfl (QO.load ty29 (by rfl) (by repeat (first | exact List.Mem.head _ | refine List.Mem.tail _ ?_)) (by rfl)) ?_) | (refine RS.q rfl (QO.loadO ty29 (by rfl) (by assumption)) ?_) | (refine RS.q rfl (QO.load ty29 (by rfl) (by repeat (first | exact List.Mem.head _ | refine List.Mem.tail _ ?_)) (by assumption)) ?_)
        refine RS.farith rfl (by rfl) (by rfl) (by simp) ?_
        intro r30 hr30
        refine RS.farith rfl (by rfl) (by rfl) (by simp) ?_
        intro r31 hr31
        refine RS.q rfl (QO.fieldAddr fo75_2 (by rfl)) ?_
        first | (refine RS.q rfl (QO.load ty3 (by rfl) (by repeat (first | exact List.Mem.head _ | refine List.Mem.tail _ ?_)) (by rfl)) ?_) | (refine RS.q rfl (QO.loadO ty3 (by rfl) (by assumption)) ?_) | (refine RS.q rfl (QO.load ty3 (by rfl) (by repeat (first | exact List.Mem.head _ | refine List.Mem.tail _ ?_)) (by assumption)) ?_)
        refine RS.q rfl (QO.conv_i64_f32 Try.underlying3 Try.underlying29 (by rfl)) ?_
        refine RS.farith rfl (by rfl) (by rfl) (by simp) ?_
        intro r35 hr35
        refine RS.q rfl (QO.assign) ?_
        refine RS.nil ?_
        refine thenC_n ?_
        refine CS.seq ?_
        refine CS.seq ?_
        refine CS.region ?_
        refine RS.q rfl (QO.move) ?_
        refine RS.q rfl (QO.fieldAddr fo75_2 (by rfl)) ?_
        first | (refine RS.q rfl (QO.load ty3 (by rfl) (by repeat (first | exact List.Mem.head _ | refine List.Mem.tail _ ?_)) (by rfl)) ?_) | (refine RS.q rfl (QO.loadO ty3 (by rfl) (by assumption)) ?_) | (refine RS.q rfl (QO.load ty3 (by rfl) (by repeat (first | exact List.Mem.head _ | refine List.Mem.tail _ ?_)) (by assumption)) ?_)
        refine RS.q rfl (QO.conv_i64_f32 Try.underlying3 Try.underlying29 (by rfl)) ?_
        refine RS.q rfl (QO.fcmp32 (by rfl) (by rfl) (by simp)) ?_
        refine RS.q rfl (QO.not (by rfl)) ?_
        refine RS.nil ?_
        refine thenC_n ?_
        refine CS.cond (by rfl) (fun hb3 => ?_) (fun hb3 => ?_)
        · have hb3p := Eq.mp (Bool.not_eq_true' _) hb3
          refine CS.seq ?_
          refine CS.region ?_
          refine RS.q rfl (QO.fieldAddr fo75_2 (by rfl)) ?_
          first | (refine RS.q rfl (QO.load ty3 (by rfl) (by repeat (first | exact List.Mem.head _ | refine List.Mem.tail _ ?_)) (by rfl)) ?_) | (refine RS.q rfl (QO.loadO ty3 (by rfl) (by assumption)) ?_) | (refine RS.q rfl (QO.load ty3 (by rfl) (by repeat (first | exact List.Mem.head _ | refine List.Mem.tail _ ?_)) (by assumption)) ?_)
          first | (refine RS.q rfl (QO.sub (by rfl) (by rfl) (by omega) (by omega)) ?_) | (refine RS.q rfl (QO.ibin (by rfl) (by rfl) trivial) ?_)
          refine RS.q rfl (QO.assign) ?_
          refine RS.nil ?_
          refine thenC_n ?_
          refine CS.ret ?_
          refine thenC_r ?_
          refine retQ.mk (H' := []) (.inr rfl) (RVs.tmp (by rfl) RVs.nil) (List.nil_sublist _) ?_
          first | exact ⟨congrArg iv (binV_1 (by assumption)), rfl⟩ | exact ⟨congrArg iv (binV_2 (by assumption) (by assumption)), rfl⟩ | exact ⟨congrArg iv (binV_3 (by assumption) (by assumption) (by assumption)), rfl⟩ | exact ⟨congrArg iv (binV_4 (by assumption) (by assumption) (by assumption) (tB_cmp (tB_is hr25 hr30 hr31 hr35) (by assumption))), rfl⟩ | exact ⟨congrArg iv (binV_5 (by assumption) (by assumption) (by assumption) hlt), rfl⟩
        · have hb3p := Eq.mp (Bool.not_eq_false' _) hb3
          refine CS.skip ?_
          refine thenC_n ?_
          refine CS.seq ?_
          refine CS.draw 8 rfl (by kernel_rfl) (by kernel_rfl) ?_
          have htb := tB_is hr25 hr30 hr31 hr35
          have hlt := tB_cmp htb (b := true) (by assumption)
          have hng := tB_ok hb (v := u) (by assumption) (by assumption) (by assumption) hlt
          have hre := tB_re htb hng
          have hfl := flI_ok hng hM2 hM hlt
          obtain ⟨d, r, k1, k2, k3, k4, k5⟩ := hfl
          refine RT.take (i := 0) rfl (by kernel_rfl) rfl (QO.move) ?_
          refine RT.take (i := 3) rfl (by kernel_rfl) rfl (QO.fieldAddr fo75_2 (by rfl)) ?_
          first | (refine RT.take (i := 4) rfl (by kernel_rfl) rfl (QO.load ty3 (by rfl) (by repeat (first | exact List.Mem.head _ | refine List.Mem.tail _ ?_)) (by rfl)) ?_) | (refine RT.take (i := 4) rfl (by kernel_rfl) rfl (QO.loadO ty3 (by rfl) (by assumption)) ?_) | (refine RT.take (i := 4) rfl (by kernel_rfl) rfl (QO.load ty3 (by rfl) (by repeat (first | exact List.Mem.head _ | refine List.Mem.tail _ ?_)) (by assumption)) ?_)
          first | (refine RT.take (i := 5) rfl (by kernel_rfl) rfl (QO.sub (by rfl) (by rfl) (by omega) (by omega)) ?_) | (refine RT.take (i := 5) rfl (by kernel_rfl) rfl (QO.ibin (by rfl) (by rfl) trivial) ?_)
          refine RT.one (i := 1) (by kernel_rfl) rfl rfl ?_
          refine RS.call rfl (by rfl) ok137 (by rfl) (fun w ho => floor_ r35 d r _ (by rw [hre]; exact k1) k2 k3) ?_
          rintro _ _ ⟨rfl, rfl⟩
          refine RS.nil ⟨(by repeat (first | exact List.Sublist.refl _ | exact List.nil_sublist _ | refine List.Sublist.cons_cons _ ?_ | refine List.Sublist.cons _ ?_ | exact Sbp.refl | exact Sbp.nil | refine Sbp.cons (by repeat (first | exact Rem.head | apply Rem.tail)) ?_ | exact Sbp.app | refine Sbp.skip ?_ | exact List.sublist_append_left _ _ | exact List.sublist_append_right _ _)), ?_⟩
          refine RT.take (i := 2) rfl (by kernel_rfl) rfl (QO.conv_f32_i64n (by rw [Try.underlying29]; rfl) Try.underlying3 (by rfl) k4) ?_
          refine RT.take (i := 6) rfl (by kernel_rfl) rfl (QO.min2 (by rfl) (by rfl)) ?_
          refine RT.take (i := 7) rfl (by kernel_rfl) rfl (QO.assign) ?_
          refine RT.done (by kernel_rfl) ?_
          refine thenC_n ?_
          refine CS.ret ?_
          refine retQ.mk (H' := []) (.inr rfl) (RVs.tmp (by rfl) RVs.nil) (List.nil_sublist _) ?_
          first | exact ⟨congrArg iv (binV_1 (by assumption)), rfl⟩ | exact ⟨congrArg iv (binV_2 (by assumption) (by assumption)), rfl⟩ | exact ⟨congrArg iv (binV_3 (by assumption) (by assumption) (by assumption)), rfl⟩ | exact ⟨congrArg iv (binV_4 (by assumption) (by assumption) (by assumption) (tB_cmp (tB_is hr25 hr30 hr31 hr35) (by assumption))), rfl⟩ | exact ⟨congrArg iv (binV_5 (by assumption) (by assumption) (by assumption) hlt), rfl⟩

theorem binB (lo hi u : Nat) (M q : Int) (W : World) (hb : okB lo hi M) (hq : binV lo hi M u = q) : Fn_ Try.prog 92 #[.agg #[flt lo, flt hi, iv M], flt u] W (fun v H => v = iv q ∧ H = []) := by
  subst hq; exact bin_ lo hi u M W hb

set_option maxRecDepth 100000 in
theorem weights_ (W : World) : Fn_ Try.prog 110 #[] W (fun v H => v = .agg #[flt (wtsV 0), flt (wtsV 1), flt (wtsV 2)] ∧ H = []) := by
  refine Fn_.intro Try.func110 rfl rfl (by rfl) ?_
  refine CS.seq ?_
  refine CS.region ?_
  refine RS.alloc rfl ty169 ?_
  intro g0
  refine RS.nil ?_
  refine thenC_n ?_
  refine CS.seq ?_
  refine CS.region ?_
  refine RS.q rfl (QO.buildA Try.underlying169 ty169 ty29 (by rfl)) ?_
  first | refine RS.storeB ty169 (by rfl) (by rfl) (by rfl) (by rfl) (by rfl) (by repeat (first | exact Upd.head | apply Upd.tail)) (by rfl) ?_ | refine RS.storeP ty169 (by rfl) (by rfl) (by rfl) (by rfl) (by rfl) (by repeat (first | exact Upd.head | apply Upd.tail)) (by rfl) ?_
  refine RS.nil ?_
  refine thenC_n ?_
  refine CS.ret ?_
  refine retQ.mk (H' := []) (.inr rfl) (RVs.cellA ty169 (by rfl) (by repeat (first | exact List.Mem.head _ | refine List.Mem.tail _ ?_)) (by rfl) RVs.nil) (List.nil_sublist _) ?_
  exact ⟨rfl, rfl⟩

theorem planeBad (x y wi he : Int) (A : Option Addr) (n c : Nat) (xs : List Nat) (ch : Int) (W : World) (hn : xs.length = n) (hA : FS W A xs) (hfr : frErr x y wi he n = 0) (hch : ch < 0 ∨ 3 < ch) : Fn_ Try.prog 108 #[.agg #[iv x, iv y, iv wi, iv he, .slice A n c], iv ch] W (fun v H => v = .tuple #[.slice none 0 0, iv 3] ∧ H = []) := by
  subst hn
  refine (plane x y wi he A _ c xs ch W rfl hA).mono fun v H h => ?_
  rcases h with ⟨h1, _⟩ | ⟨_, _, h2, h3⟩ | ⟨_, h2, h3, _⟩
  · exact absurd hfr h1
  · exact ⟨h2, h3⟩
  · omega
theorem planeOk (x y : Int) (a b : Nat) (A : Option Addr) (n c : Nat) (xs : List Nat) (ch : Int) (W : World) (hn : xs.length = n) (hA : FS W A xs) (hfr : frErr x y (a : Int) (b : Int) n = 0) (h0 : 0 ≤ ch) (h3 : ch ≤ 3) : Fn_ Try.prog 108 #[.agg #[iv x, iv y, iv (a : Int), iv (b : Int), .slice A n c], iv ch] W (fun v H => ∃ g, v = .tuple #[.slice (some ⟨g, 0, none⟩) (a * b) (a * b), iv 0] ∧ H = [⟨g, 29, ((List.range (a * b)).map (chanV xs ch)).map flt⟩]) := by
  subst hn
  refine (plane x y (a : Int) (b : Int) A _ c xs ch W rfl hA).mono fun v H h => ?_
  have e : ((a : Int) * (b : Int)).toNat = a * b := by rw [← Int.natCast_mul]; rfl
  rcases h with ⟨h1, _⟩ | ⟨_, h2, _⟩ | ⟨_, _, _, g, h4, h5⟩
  · exact absurd hfr h1
  · omega
  · rw [e] at h4
    rw [e, chanV_pl h0 h3] at h5
    exact ⟨g, h4, h5⟩

set_option maxRecDepth 100000 in
theorem valsBad (X Y : Int) (a b : Nat) (A : Option Addr) (n c : Nat) (xs : List Nat) (ch : Int) (W : World) (hn : xs.length = n) (hA : FS W A xs) (hfr : frErr X Y (a : Int) (b : Int) n = 0) (hch : ¬ (0 ≤ ch ∧ ch ≤ 4)) : Fn_ Try.prog 50 #[.agg #[iv X, iv Y, iv (a : Int), iv (b : Int), .slice A n c], iv ch] W (fun v H => v = .tuple #[.slice none 0 0, iv 3] ∧ H = []) := by
  refine Fn_.intro Try.func50 rfl rfl (by rfl) ?_
  refine CS.seq ?_
  refine CS.region ?_
  refine RS.box rfl (by rfl) (by rfl) ?_
  intro g2
  refine RS.q rfl (QO.assign) ?_
  refine RS.q rfl (QO.assign) ?_
  refine RS.nil ?_
  refine thenC_n ?_
  refine CS.seq ?_
  refine CS.seq ?_
  refine CS.region ?_
  refine RS.q rfl (QO.move) ?_
  refine RS.qv rfl (QO.neq (by rfl) (by rfl)) (congrArg Value.bool (show (ch != 4) = true from bne_iff_ne.2 (by omega))) ?_
  refine RS.nil ?_
  refine thenC_n ?_
  refine CS.condT (by rfl) rfl ?_
  refine CS.seq ?_
  refine CS.region ?_
  first | (refine RS.q rfl (QO.loadB ty26 (by rfl) (by repeat (first | exact List.Mem.head _ | refine List.Mem.tail _ ?_)) (by rfl)) ?_) | (refine RS.q rfl (QO.loadA ty26 (by rfl) (by repeat (first | exact List.Mem.head _ | refine List.Mem.tail _ ?_)) (by rfl) (by rfl)) ?_) | (refine RS.q rfl (QO.loadOA ty26 (by rfl) (by assumption) (by rfl)) ?_)
  refine RS.q rfl (QO.move) ?_
  refine RS.call rfl (by rfl) ok108 (by rfl) (fun w ho => planeBad X Y (a : Int) (b : Int) A n c xs ch _ hn (hA.own ho) hfr (by omega)) ?_
  rintro _ _ ⟨rfl, rfl⟩
  refine RS.q rfl (QO.extract (by rfl) (by rfl)) ?_
  refine RS.q rfl (QO.extract (by rfl) (by rfl)) ?_
  refine RS.q rfl (QO.assign) ?_
  refine RS.q rfl (QO.assign) ?_
  refine RS.nil ?_
  refine thenC_n ?_
  refine CS.ret ?_
  refine thenC_r ?_
  refine retQ.mk (H' := []) (.inr rfl) (RVs.tmp (by rfl) (RVs.tmp (by rfl) RVs.nil)) (List.nil_sublist _) ?_
  exact ⟨rfl, rfl⟩

set_option maxRecDepth 100000 in
theorem valsPl (X Y : Int) (a b : Nat) (A : Option Addr) (n c : Nat) (xs : List Nat) (ch : Int) (W : World) (hn : xs.length = n) (hA : FS W A xs) (hfr : frErr X Y (a : Int) (b : Int) n = 0) (h0 : 0 ≤ ch) (h3 : ch ≤ 3) : Fn_ Try.prog 50 #[.agg #[iv X, iv Y, iv (a : Int), iv (b : Int), .slice A n c], iv ch] W (fun v H => ∃ g, v = .tuple #[.slice (some ⟨g, 0, none⟩) (a * b) (a * b), iv 0] ∧ H = [⟨g, 29, ((List.range (a * b)).map (chanV xs ch)).map flt⟩]) := by
  refine Fn_.intro Try.func50 rfl rfl (by rfl) ?_
  refine CS.seq ?_
  refine CS.region ?_
  refine RS.box rfl (by rfl) (by rfl) ?_
  intro g2
  refine RS.q rfl (QO.assign) ?_
  refine RS.q rfl (QO.assign) ?_
  refine RS.nil ?_
  refine thenC_n ?_
  refine CS.seq ?_
  refine CS.seq ?_
  refine CS.region ?_
  refine RS.q rfl (QO.move) ?_
  refine RS.qv rfl (QO.neq (by rfl) (by rfl)) (congrArg Value.bool (show (ch != 4) = true from bne_iff_ne.2 (by omega))) ?_
  refine RS.nil ?_
  refine thenC_n ?_
  refine CS.condT (by rfl) rfl ?_
  refine CS.seq ?_
  refine CS.region ?_
  first | (refine RS.q rfl (QO.loadB ty26 (by rfl) (by repeat (first | exact List.Mem.head _ | refine List.Mem.tail _ ?_)) (by rfl)) ?_) | (refine RS.q rfl (QO.loadA ty26 (by rfl) (by repeat (first | exact List.Mem.head _ | refine List.Mem.tail _ ?_)) (by rfl) (by rfl)) ?_) | (refine RS.q rfl (QO.loadOA ty26 (by rfl) (by assumption) (by rfl)) ?_)
  refine RS.q rfl (QO.move) ?_
  refine RS.call rfl (by rfl) ok108 (by rfl) (fun w ho => planeOk X Y a b A n c xs ch _ hn (hA.own ho) hfr h0 h3) ?_
  rintro _ _ ⟨gp, rfl, rfl⟩
  refine RS.q rfl (QO.extract (by rfl) (by rfl)) ?_
  refine RS.q rfl (QO.extract (by rfl) (by rfl)) ?_
  refine RS.q rfl (QO.assign) ?_
  refine RS.q rfl (QO.assign) ?_
  refine RS.nil ?_
  refine thenC_n ?_
  refine CS.ret ?_
  refine thenC_r ?_
  refine retQ.mk (H' := [⟨gp, 29, ((List.range (a * b)).map (chanV xs ch)).map flt⟩]) (.inr rfl) (RVs.tmp (by rfl) (RVs.tmp (by rfl) RVs.nil)) (by repeat (first | exact List.Sublist.refl _ | exact List.nil_sublist _ | refine List.Sublist.cons_cons _ ?_ | refine List.Sublist.cons _ ?_ | exact Sbp.refl | exact Sbp.nil | refine Sbp.cons (by repeat (first | exact Rem.head | apply Rem.tail)) ?_ | exact Sbp.app | refine Sbp.skip ?_ | exact List.sublist_append_left _ _ | exact List.sublist_append_right _ _)) ?_
  exact ⟨gp, rfl, rfl⟩

theorem cutAt_1 {g o k c : Nat} (h : 4 * k < c) : Value.slice (cutAt g o (4 * (k : Int)).toNat c 1) ((4 * (k : Int) + 4).toNat - (4 * (k : Int)).toNat) (c - (4 * (k : Int)).toNat) = Value.slice (some ⟨g, o + 4 * k, none⟩) 4 (c - 4 * k) := by
  have e1 : (4 * (k : Int)).toNat = 4 * k := by omega
  have e2 : (4 * (k : Int) + 4).toNat = 4 * k + 4 := by omega
  rw [e1, e2]
  unfold cutAt
  first | (rw [if_pos (by omega), Nat.mul_one]; congr 1; omega) | (rw [if_neg (by omega), Nat.mul_one]; congr 1; omega)
theorem px_cells {W : World} {xs : List Nat} {bA oA k : Nat} (h : 4 * k + 4 ≤ xs.length) (hc : ∀ i x, xs[i]? = some x → W.cell? ⟨bA, oA + i, none⟩ = some (flt x)) : ∀ j v, ([flt (xs.getD (4 * k + 0) 0), flt (xs.getD (4 * k + 1) 0), flt (xs.getD (4 * k + 2) 0), flt (xs.getD (4 * k + 3) 0)] : List Value)[j]? = some v → W.cell? ((⟨bA, oA + 4 * k, none⟩ : Addr).add j) = some v := fun j v hj => by
  have hj4 : j < 4 := (List.getElem?_eq_some_iff.1 hj).1
  have key : ∀ cc, cc < 4 → W.cell? ((⟨bA, oA + 4 * k, none⟩ : Addr).add cc) = some (flt (xs.getD (4 * k + cc) 0)) := fun cc hcc => by
    rw [addr_add, show oA + 4 * k + cc = oA + (4 * k + cc) by omega]
    refine hc _ _ ?_
    rw [List.getD_eq_getElem?_getD, List.getElem?_eq_getElem (by omega)]; rfl
  match j, hj4 with
  | 0, _ => rw [key 0 (by omega)]; exact hj
  | 1, _ => rw [key 1 (by omega)]; exact hj
  | 2, _ => rw [key 2 (by omega)]; exact hj
  | 3, _ => rw [key 3 (by omega)]; exact hj

set_option maxHeartbeats 4000000 in
set_option maxRecDepth 100000 in
theorem valsLu (X Y : Int) (a b : Nat) (A : Option Addr) (n c : Nat) (xs : List Nat) (W : World) (hn : xs.length = n) (hA : FS W A xs) (hfr : frErr X Y (a : Int) (b : Int) n = 0) (hN : n = 4 * (a * b)) (hc : n ≤ c) (hcm : c ≤ maxLen) (ha : 1 ≤ a ∧ a ≤ 256) (hb : 1 ≤ b ∧ b ≤ 256) : Fn_ Try.prog 50 #[.agg #[iv X, iv Y, iv (a : Int), iv (b : Int), .slice A n c], iv 4] W (fun v H => ∃ g, v = .tuple #[.slice (some ⟨g, 0, none⟩) (a * b) (a * b), iv 0] ∧ H = [⟨g, 29, ((List.range (a * b)).map (chanV xs 4)).map flt⟩]) := by
  have hpos := Nat.mul_le_mul ha.1 hb.1
  have hup := Nat.mul_le_mul ha.2 hb.2
  have hcast : ((a * b : Nat) : Int) = (a : Int) * (b : Int) := Int.natCast_mul ..
  have hcm2 : c ≤ 9223372036854775807 := hcm
  refine Fn_.intro Try.func50 rfl rfl (by rfl) ?_
  refine CS.seq ?_
  refine CS.region ?_
  refine RS.box rfl (by rfl) (by rfl) ?_
  intro g2
  refine RS.q rfl (QO.assign) ?_
  refine RS.q rfl (QO.assign) ?_
  refine RS.nil ?_
  refine thenC_n ?_
  refine CS.seq ?_
  refine CS.seq ?_
  refine CS.region ?_
  refine RS.q rfl (QO.move) ?_
  refine RS.qv rfl (QO.neq (by rfl) (by rfl)) (congrArg Value.bool (show ((4 : Int) != 4) = false from by decide)) ?_
  refine RS.nil ?_
  refine thenC_n ?_
  refine CS.condF (by rfl) rfl ?_
  refine CS.skip ?_
  refine thenC_n ?_
  refine CS.seq ?_
  refine CS.seq ?_
  refine CS.region ?_
  first | (refine RS.q rfl (QO.loadB ty26 (by rfl) (by repeat (first | exact List.Mem.head _ | refine List.Mem.tail _ ?_)) (by rfl)) ?_) | (refine RS.q rfl (QO.loadA ty26 (by rfl) (by repeat (first | exact List.Mem.head _ | refine List.Mem.tail _ ?_)) (by rfl) (by rfl)) ?_) | (refine RS.q rfl (QO.loadOA ty26 (by rfl) (by assumption) (by rfl)) ?_)
  refine RS.call rfl (by rfl) ok58 (by rfl) (fun w ho => check X Y (a : Int) (b : Int) A n c _) ?_
  rintro _ _ ⟨rfl, rfl⟩
  refine RS.q rfl (QO.assign) ?_
  refine RS.nil ?_
  refine thenC_n ?_
  refine CS.seq ?_
  refine CS.region ?_
  refine RS.q rfl (QO.move) ?_
  refine RS.qv rfl (QO.neq (by rfl) (by rfl)) (congrArg Value.bool (show (frErr X Y (a : Int) (b : Int) n != 0) = false from by rw [hfr]; rfl)) ?_
  refine RS.nil ?_
  refine thenC_n ?_
  refine CS.condF (by rfl) rfl ?_
  refine CS.skip ?_
  refine thenC_n ?_
  refine CS.seq ?_
  refine CS.region ?_
  refine RS.q rfl (QO.fieldAddr fo26_0 (by rfl)) ?_
  refine RS.q rfl (QO.fieldAddr fo23_2 (by rfl)) ?_
  first | (refine RS.q rfl (QO.load ty3 (by rfl) (by repeat (first | exact List.Mem.head _ | refine List.Mem.tail _ ?_)) (by rfl)) ?_) | (refine RS.q rfl (QO.loadO ty3 (by rfl) (by assumption)) ?_) | (refine RS.q rfl (QO.load ty3 (by rfl) (by repeat (first | exact List.Mem.head _ | refine List.Mem.tail _ ?_)) (by assumption)) ?_)
  refine RS.q rfl (QO.fieldAddr fo26_0 (by rfl)) ?_
  refine RS.q rfl (QO.fieldAddr fo23_3 (by rfl)) ?_
  first | (refine RS.q rfl (QO.load ty3 (by rfl) (by repeat (first | exact List.Mem.head _ | refine List.Mem.tail _ ?_)) (by rfl)) ?_) | (refine RS.q rfl (QO.loadO ty3 (by rfl) (by assumption)) ?_) | (refine RS.q rfl (QO.load ty3 (by rfl) (by repeat (first | exact List.Mem.head _ | refine List.Mem.tail _ ?_)) (by assumption)) ?_)
  first | (refine RS.qv rfl (QO.mul (by rfl) (by rfl) (by omega) (by omega)) (congrArg iv hcast.symm) ?_) | (refine RS.qv rfl (QO.ibin (by rfl) (by rfl) trivial) (congrArg iv hcast.symm) ?_)
  refine RS.make rfl Try.underlying24 ty29 (by rfl) (by rfl) (by omega) (by omega) (by omega) (by omega) ?_
  intro g28
  refine RS.q rfl (QO.assign) ?_
  refine RS.nil ?_
  refine thenC_n ?_
  refine CS.seq ?_
  refine CS.seq ?_
  refine CS.region ?_
  refine RS.q rfl (QO.move) ?_
  refine RS.q rfl (QO.lenS Try.underlying24 (by rfl)) ?_
  refine RS.q rfl (QO.move) ?_
  refine RS.nil ?_
  refine thenC_n ?_
  refine CS.block ?_
  refine CS.loop (X := Nat) (8 :: 31 :: 32 :: 33 :: 34 :: 35 :: 36 :: 37 :: 38 :: 39 :: 40 :: 41 :: 42 :: 43 :: 44 :: 45 :: 46 :: 47 :: 48 :: 49 :: []) (fun k => [(31, iv (k : Int))]) (fun k => [⟨g28, 29, partL (chanV xs 4) (a * b) k⟩, ⟨g2, 26, [iv X, iv Y, iv (a : Int), iv (b : Int), .slice A n c]⟩]) (fun k => k ≤ a * b) (fun k => a * b - k) 0 (Nat.zero_le _) ?_ ?_ ?_
  · exact (by repeat (first | exact kn_nil | refine kn_cons (by rfl) ?_))
  · exact (by rw [partL_zero]; exact (by repeat (first | exact List.Sublist.refl _ | exact List.nil_sublist _ | refine List.Sublist.cons_cons _ ?_ | refine List.Sublist.cons _ ?_ | exact Sbp.refl | exact Sbp.nil | refine Sbp.cons (by repeat (first | exact Rem.head | apply Rem.tail)) ?_ | exact Sbp.app | refine Sbp.skip ?_ | exact List.sublist_append_left _ _ | exact List.sublist_append_right _ _)))
  · intro k gj8 hz
    refine CS.seq ?_
    refine CS.region ?_
    refine RS.q rfl (QO.lss (by rfl) (by rfl)) ?_
    refine RS.nil ?_
    refine thenC_n ?_
    refine CS.seq ?_
    refine CS.cond (by rfl) (fun hb0 => ?_) (fun hb0 => ?_)
    · have hb0p := of_decide_eq_true hb0
      refine CS.skip ?_
      refine thenC_n ?_
      refine CS.seq ?_
      refine CS.block ?_
      refine CS.seq ?_
      refine CS.region ?_
      refine RS.q rfl (QO.move) ?_
      refine RS.q rfl (QO.assign) ?_
      refine RS.nil ?_
      refine thenC_n ?_
      refine CS.draw 15 rfl (by kernel_rfl) (by kernel_rfl) ?_
      have hx1 := hA (by omega)
      obtain ⟨bA, oA, e1, hcell⟩ := hx1
      have hpx := px_cells (xs := xs) (k := k) (by omega) hcell
      refine RT.take (i := 0) rfl (by kernel_rfl) rfl (QO.move) ?_
      refine RT.take (i := 1) rfl (by kernel_rfl) rfl (QO.move) ?_
      refine RT.take (i := 3) rfl (by kernel_rfl) rfl (QO.fieldAddr fo26_1 (by rfl)) ?_
      first | (refine RT.take (i := 4) rfl (by kernel_rfl) rfl (QO.load ty24 (by rfl) (by repeat (first | exact List.Mem.head _ | refine List.Mem.tail _ ?_)) (by rfl)) ?_) | (refine RT.take (i := 4) rfl (by kernel_rfl) rfl (QO.loadO ty24 (by rfl) (by assumption)) ?_) | (refine RT.take (i := 4) rfl (by kernel_rfl) rfl (QO.load ty24 (by rfl) (by repeat (first | exact List.Mem.head _ | refine List.Mem.tail _ ?_)) (by assumption)) ?_)
      refine RT.take (i := 5) rfl (by kernel_rfl) rfl (QO.move) ?_
      first | (refine RT.take (i := 6) rfl (by kernel_rfl) rfl (QO.mul (by rfl) (by rfl) (by omega) (by omega)) ?_) | (refine RT.take (i := 6) rfl (by kernel_rfl) rfl (QO.ibin (by rfl) (by rfl) trivial) ?_)
      refine RT.take (i := 7) rfl (by kernel_rfl) rfl (QO.move) ?_
      first | (refine RT.take (i := 8) rfl (by kernel_rfl) rfl (QO.mul (by rfl) (by rfl) (by omega) (by omega)) ?_) | (refine RT.take (i := 8) rfl (by kernel_rfl) rfl (QO.ibin (by rfl) (by rfl) trivial) ?_)
      first | (refine RT.take (i := 9) rfl (by kernel_rfl) rfl (QO.add (by rfl) (by rfl) (by omega) (by omega)) ?_) | (refine RT.take (i := 9) rfl (by kernel_rfl) rfl (QO.ibin (by rfl) (by rfl) trivial) ?_)
      refine RT.takev (i := 10) rfl (by kernel_rfl) rfl (QO.cutLoHi Try.underlying24 ty29 (congrArg (fun A => Value.slice A n c) e1) (by rfl) (by rfl) (by omega) (by omega) (by omega)) ((cutAt_1 (g := bA) (o := oA) (k := k) (c := c) (by omega))) ?_
      refine RT.take (i := 11) rfl (by kernel_rfl) rfl (QO.arrPtr Try.underlying172 (by rfl) (by omega)) ?_
      refine RT.take (i := 12) rfl (by kernel_rfl) rfl (QO.loadOA ty172 (vs := [flt (xs.getD (4 * k + 0) 0), flt (xs.getD (4 * k + 1) 0), flt (xs.getD (4 * k + 2) 0), flt (xs.getD (4 * k + 3) 0)]) (by rfl) hpx (by rfl)) ?_
      refine RT.one (i := 2) (by kernel_rfl) rfl rfl ?_
      refine RS.call rfl (by rfl) ok110 (by rfl) (fun w ho => weights_ _) ?_
      rintro _ _ ⟨rfl, rfl⟩
      refine RS.nil ⟨(by repeat (first | exact List.Sublist.refl _ | exact List.nil_sublist _ | refine List.Sublist.cons_cons _ ?_ | refine List.Sublist.cons _ ?_ | exact Sbp.refl | exact Sbp.nil | refine Sbp.cons (by repeat (first | exact Rem.head | apply Rem.tail)) ?_ | exact Sbp.app | refine Sbp.skip ?_ | exact List.sublist_append_left _ _ | exact List.sublist_append_right _ _)), ?_⟩
      refine RT.one (i := 13) (by kernel_rfl) rfl rfl ?_
      refine RS.call rfl (by rfl) ok109 (by rfl) (fun w ho => luma_ wtsV (fun cc => xs.getD (4 * k + cc) 0) _) ?_
      rintro _ _ ⟨rfl, rfl⟩
      refine RS.nil ⟨(by repeat (first | exact List.Sublist.refl _ | exact List.nil_sublist _ | refine List.Sublist.cons_cons _ ?_ | refine List.Sublist.cons _ ?_ | exact Sbp.refl | exact Sbp.nil | refine Sbp.cons (by repeat (first | exact Rem.head | apply Rem.tail)) ?_ | exact Sbp.app | refine Sbp.skip ?_ | exact List.sublist_append_left _ _ | exact List.sublist_append_right _ _)), ?_⟩
      first | (refine RT.take (i := 14) rfl (by kernel_rfl) rfl (QO.idx0 Try.underlying24 ty29 (by rfl) (by rfl) (by rfl) (by omega)) ?_) | (refine RT.take (i := 14) rfl (by kernel_rfl) rfl (QO.idxn Try.underlying24 ty29 (by rfl) (by rfl) (by rfl) (by omega)) ?_) | (refine RT.take (i := 14) rfl (by kernel_rfl) rfl (QO.idx1 Try.underlying24 ty29 (by rfl) (by rfl) (by omega) (by omega)) ?_)
      refine RT.tail (i := 15) (by kernel_rfl) rfl rfl ?_
      refine RS.store1e ty29 rfl (by rfl) (by rfl) (by rfl) (partL_set (chanV xs 4) (a * b) k _ chanV_lu (by omega)) (by repeat (first | exact Upd.head | apply Upd.tail)) (by rw [partL_len]; omega) ?_
      refine RS.nil ?_
      refine RT.done (by kernel_rfl) ?_
      refine blockC_n ?_
      refine thenC_n ?_
      refine CS.region ?_
      first | (refine RS.q rfl (QO.add (by rfl) (by rfl) (by omega) (by omega)) ?_) | (refine RS.q rfl (QO.ibin (by rfl) (by rfl) trivial) ?_)
      refine RS.q rfl (QO.move) ?_
      refine RS.nil ?_
      refine loopQ_n (by intro t ht; repeat (first | with_reducible exact rfl | exact frame_puts ht (frame_mix ht) _ rfl | (refine frame_put rfl ht ?_) | (refine frame_puts ht ?_ _ rfl) | exact frame_mix ht | (refine frame_mix2 rfl ht ?_) | exact rfl)) ?_
      exact ⟨k + 1, by omega, by omega, (by repeat (first | exact kn_nil | refine kn_cons (by rfl) ?_)), (by repeat (first | exact List.Sublist.refl _ | exact List.nil_sublist _ | refine List.Sublist.cons_cons _ ?_ | refine List.Sublist.cons _ ?_ | exact Sbp.refl | exact Sbp.nil | refine Sbp.cons (by repeat (first | exact Rem.head | apply Rem.tail)) ?_ | exact Sbp.app | refine Sbp.skip ?_ | exact List.sublist_append_left _ _ | exact List.sublist_append_right _ _))⟩
    · have hb0p := of_decide_eq_false hb0
      refine CS.exit ?_
      refine thenC_x ?_
      refine loopQ_x ?_
      refine blockC_x ?_
      refine thenC_n ?_
      refine CS.seq ?_
      refine CS.region ?_
      refine RS.q rfl (QO.move) ?_
      refine RS.q rfl (QO.assign) ?_
      refine RS.q rfl (QO.assign) ?_
      refine RS.nil ?_
      refine thenC_n ?_
      refine CS.ret ?_
      refine retQ.mk (H' := [⟨g28, 29, ((List.range (a * b)).map (chanV xs 4)).map flt⟩]) (.inr rfl) (RVs.tmp (by rfl) (RVs.tmp (by rfl) RVs.nil)) (by obtain rfl : k = a * b := (by omega); rw [partL_full]; exact (by repeat (first | exact List.Sublist.refl _ | exact List.nil_sublist _ | refine List.Sublist.cons_cons _ ?_ | refine List.Sublist.cons _ ?_ | exact Sbp.refl | exact Sbp.nil | refine Sbp.cons (by repeat (first | exact Rem.head | apply Rem.tail)) ?_ | exact Sbp.app | refine Sbp.skip ?_ | exact List.sublist_append_left _ _ | exact List.sublist_append_right _ _))) ?_
      exact ⟨g28, rfl, rfl⟩

end Go.Proofs.Ytapcgokcfmklbaa

namespace Go.Proofs.Ytapcgokcfmklbaa
open Go Go.Proofs Go.RowKit

theorem ty39 : tyChk Try.prog 39 = some ([.slice none 0 0], false, 24) := by kernel_rfl
theorem ty75 : tyChk Try.prog 75 = some ([.float .f32 0, .float .f32 0, .int .i64 0], true, 16) := by kernel_rfl
theorem ty77 : tyChk Try.prog 77 = some ([.slice none 0 0, .int .i64 0, .int .i64 0, .int .i64 0], true, 48) := by kernel_rfl
theorem fo77_0 : fldOff Try.prog 77 0 = some (0, 39) := by kernel_rfl
theorem fo77_1 : fldOff Try.prog 77 1 = some (1, 3) := by kernel_rfl
theorem fo77_2 : fldOff Try.prog 77 2 = some (2, 3) := by kernel_rfl
theorem fo77_3 : fldOff Try.prog 77 3 = some (3, 3) := by kernel_rfl
theorem pl77 : places Try.prog 77 = some #[(0, 1), (1, 1), (2, 1), (3, 1)] := by kernel_rfl
theorem ok50 : callOK Try.prog 50 = true := by kernel_rfl
theorem ok91 : callOK Try.prog 91 = true := by kernel_rfl
theorem ok92 : callOK Try.prog 92 = true := by kernel_rfl

theorem valsOk (X Y : Int) (a b : Nat) (A : Option Addr) (n c : Nat) (xs : List Nat) (ch : Int) (W : World) (hn : xs.length = n) (hA : FS W A xs) (hfr : frErr X Y (a : Int) (b : Int) n = 0) (hN : n = 4 * (a * b)) (hc : n ≤ c) (hcm : c ≤ maxLen) (ha : 1 ≤ a ∧ a ≤ 256) (hb : 1 ≤ b ∧ b ≤ 256) (h0 : 0 ≤ ch) (h4 : ch ≤ 4) : Fn_ Try.prog 50 #[.agg #[iv X, iv Y, iv (a : Int), iv (b : Int), .slice A n c], iv ch] W (fun v H => ∃ g, v = .tuple #[.slice (some ⟨g, 0, none⟩) (a * b) (a * b), iv 0] ∧ H = [⟨g, 29, ((List.range (a * b)).map (chanV xs ch)).map flt⟩]) := by
  by_cases h : ch = 4
  · subst h; exact valsLu X Y a b A n c xs W hn hA hfr hN hc hcm ha hb
  · exact valsPl X Y a b A n c xs ch W hn hA hfr h0 (by omega)
theorem checkBins0 (lo hi : Nat) (M : Int) (W : World) (hb : okB lo hi M) : Fn_ Try.prog 91 #[.agg #[flt lo, flt hi, iv M]] W (fun v H => v = iv 0 ∧ H = []) := by
  have h := checkBins lo hi M W
  rw [bnE_is hb] at h; exact h

set_option maxRecDepth 100000 in
theorem histBad1 (X Y : Int) (a b : Nat) (A : Option Addr) (n c : Nat) (xs : List Nat) (ch : Int) (W : World) (hn : xs.length = n) (hA : FS W A xs) (hfr : frErr X Y (a : Int) (b : Int) n = 0) (hN : n = 4 * (a * b)) (hc : n ≤ c) (hcm : c ≤ maxLen) (ha : 1 ≤ a ∧ a ≤ 256) (hb : 1 ≤ b ∧ b ≤ 256) (lo hi : Nat) (M : Int) (hch : ¬ (0 ≤ ch ∧ ch ≤ 4)) : Fn_ Try.prog 33 #[.agg #[iv X, iv Y, iv (a : Int), iv (b : Int), .slice A n c], iv ch, .agg #[flt lo, flt hi, iv M]] W (fun v H => v = .tuple #[.agg #[.slice none 0 0, iv 0, iv 0, iv 0], iv 3] ∧ H = []) := by
  refine Fn_.intro Try.func33 rfl rfl (by rfl) ?_
  refine CS.seq ?_
  refine CS.region ?_
  refine RS.box rfl (by rfl) (by rfl) ?_
  intro g3
  refine RS.box rfl (by rfl) (by rfl) ?_
  intro g5
  refine RS.alloc rfl ty77 ?_
  intro g6
  refine RS.q rfl (QO.assign) ?_
  refine RS.nil ?_
  refine thenC_n ?_
  refine CS.seq ?_
  refine CS.region ?_
  first | (refine RS.q rfl (QO.loadB ty26 (by rfl) (by repeat (first | exact List.Mem.head _ | refine List.Mem.tail _ ?_)) (by rfl)) ?_) | (refine RS.q rfl (QO.loadA ty26 (by rfl) (by repeat (first | exact List.Mem.head _ | refine List.Mem.tail _ ?_)) (by rfl) (by rfl)) ?_) | (refine RS.q rfl (QO.loadOA ty26 (by rfl) (by assumption) (by rfl)) ?_)
  refine RS.q rfl (QO.move) ?_
  refine RS.call rfl (by rfl) ok50 (by rfl) (fun w ho => valsBad X Y a b A n c xs ch _ hn (hA.own ho) hfr hch) ?_
  rintro _ _ ⟨rfl, rfl⟩
  refine RS.q rfl (QO.move) ?_
  refine RS.q rfl (QO.extract (by rfl) (by rfl)) ?_
  refine RS.q rfl (QO.extract (by rfl) (by rfl)) ?_
  refine RS.q rfl (QO.assign) ?_
  refine RS.q rfl (QO.assign) ?_
  refine RS.nil ?_
  refine thenC_n ?_
  refine CS.seq ?_
  refine CS.seq ?_
  refine CS.region ?_
  refine RS.q rfl (QO.move) ?_
  refine RS.qv rfl (QO.eql (by rfl) (by rfl)) (congrArg Value.bool (show ((3 : Int) == 0) = false from by decide)) ?_
  refine RS.nil ?_
  refine thenC_n ?_
  refine CS.condF (by rfl) rfl ?_
  refine CS.skip ?_
  refine thenC_n ?_
  refine CS.seq ?_
  refine CS.seq ?_
  refine CS.region ?_
  refine RS.q rfl (QO.move) ?_
  refine RS.qv rfl (QO.neq (by rfl) (by rfl)) (congrArg Value.bool (show ((3 : Int) != 0) = true from by decide)) ?_
  refine RS.nil ?_
  refine thenC_n ?_
  refine CS.condT (by rfl) rfl ?_
  refine CS.seq ?_
  refine CS.region ?_
  refine RS.q rfl (QO.build ty77 pl77 (by rfl)) ?_
  refine RS.q rfl (QO.move) ?_
  first | refine RS.storeB ty77 (by rfl) (by rfl) (by rfl) (by rfl) (by rfl) (by repeat (first | exact Upd.head | apply Upd.tail)) (by rfl) ?_ | refine RS.storeP ty77 (by rfl) (by rfl) (by rfl) (by rfl) (by rfl) (by repeat (first | exact Upd.head | apply Upd.tail)) (by rfl) ?_
  refine RS.q rfl (QO.assign) ?_
  refine RS.nil ?_
  refine thenC_n ?_
  refine CS.ret ?_
  refine thenC_r ?_
  refine retQ.mk (H' := []) (.inr rfl) (RVs.cellA ty77 (by rfl) (by repeat (first | exact List.Mem.head _ | refine List.Mem.tail _ ?_)) (by rfl) (RVs.tmp (by rfl) RVs.nil)) (List.nil_sublist _) ?_
  exact ⟨rfl, rfl⟩

set_option maxRecDepth 100000 in
theorem histBad2 (X Y : Int) (a b : Nat) (A : Option Addr) (n c : Nat) (xs : List Nat) (ch : Int) (W : World) (hn : xs.length = n) (hA : FS W A xs) (hfr : frErr X Y (a : Int) (b : Int) n = 0) (hN : n = 4 * (a * b)) (hc : n ≤ c) (hcm : c ≤ maxLen) (ha : 1 ≤ a ∧ a ≤ 256) (hb : 1 ≤ b ∧ b ≤ 256) (lo hi : Nat) (M : Int) (h0 : 0 ≤ ch) (h4 : ch ≤ 4) (hbn : bnE lo hi M ≠ 0) : Fn_ Try.prog 33 #[.agg #[iv X, iv Y, iv (a : Int), iv (b : Int), .slice A n c], iv ch, .agg #[flt lo, flt hi, iv M]] W (fun v H => v = .tuple #[.agg #[.slice none 0 0, iv 0, iv 0, iv 0], iv (bnE lo hi M)] ∧ H = []) := by
  refine Fn_.intro Try.func33 rfl rfl (by rfl) ?_
  refine CS.seq ?_
  refine CS.region ?_
  refine RS.box rfl (by rfl) (by rfl) ?_
  intro g3
  refine RS.box rfl (by rfl) (by rfl) ?_
  intro g5
  refine RS.alloc rfl ty77 ?_
  intro g6
  refine RS.q rfl (QO.assign) ?_
  refine RS.nil ?_
  refine thenC_n ?_
  refine CS.seq ?_
  refine CS.region ?_
  first | (refine RS.q rfl (QO.loadB ty26 (by rfl) (by repeat (first | exact List.Mem.head _ | refine List.Mem.tail _ ?_)) (by rfl)) ?_) | (refine RS.q rfl (QO.loadA ty26 (by rfl) (by repeat (first | exact List.Mem.head _ | refine List.Mem.tail _ ?_)) (by rfl) (by rfl)) ?_) | (refine RS.q rfl (QO.loadOA ty26 (by rfl) (by assumption) (by rfl)) ?_)
  refine RS.q rfl (QO.move) ?_
  refine RS.call rfl (by rfl) ok50 (by rfl) (fun w ho => valsOk X Y a b A n c xs ch _ hn (hA.own ho) hfr hN hc hcm ha hb h0 h4) ?_
  rintro _ _ ⟨gv, rfl, rfl⟩
  refine RS.q rfl (QO.move) ?_
  refine RS.q rfl (QO.extract (by rfl) (by rfl)) ?_
  refine RS.q rfl (QO.extract (by rfl) (by rfl)) ?_
  refine RS.q rfl (QO.assign) ?_
  refine RS.q rfl (QO.assign) ?_
  refine RS.nil ?_
  refine thenC_n ?_
  refine CS.seq ?_
  refine CS.seq ?_
  refine CS.region ?_
  refine RS.q rfl (QO.move) ?_
  refine RS.qv rfl (QO.eql (by rfl) (by rfl)) (congrArg Value.bool (show ((0 : Int) == 0) = true from by decide)) ?_
  refine RS.nil ?_
  refine thenC_n ?_
  refine CS.condT (by rfl) rfl ?_
  refine CS.region ?_
  first | (refine RS.q rfl (QO.loadB ty75 (by rfl) (by repeat (first | exact List.Mem.head _ | refine List.Mem.tail _ ?_)) (by rfl)) ?_) | (refine RS.q rfl (QO.loadA ty75 (by rfl) (by repeat (first | exact List.Mem.head _ | refine List.Mem.tail _ ?_)) (by rfl) (by rfl)) ?_) | (refine RS.q rfl (QO.loadOA ty75 (by rfl) (by assumption) (by rfl)) ?_)
  refine RS.call rfl (by rfl) ok91 (by rfl) (fun w ho => checkBins lo hi M _) ?_
  rintro _ _ ⟨rfl, rfl⟩
  refine RS.q rfl (QO.assign) ?_
  refine RS.nil ?_
  refine thenC_n ?_
  refine CS.seq ?_
  refine CS.seq ?_
  refine CS.region ?_
  refine RS.q rfl (QO.move) ?_
  refine RS.qv rfl (QO.neq (by rfl) (by rfl)) (congrArg Value.bool (show (bnE lo hi M != 0) = true from bne_iff_ne.2 hbn)) ?_
  refine RS.nil ?_
  refine thenC_n ?_
  refine CS.condT (by rfl) rfl ?_
  refine CS.seq ?_
  refine CS.region ?_
  refine RS.q rfl (QO.build ty77 pl77 (by rfl)) ?_
  refine RS.q rfl (QO.move) ?_
  first | refine RS.storeB ty77 (by rfl) (by rfl) (by rfl) (by rfl) (by rfl) (by repeat (first | exact Upd.head | apply Upd.tail)) (by rfl) ?_ | refine RS.storeP ty77 (by rfl) (by rfl) (by rfl) (by rfl) (by rfl) (by repeat (first | exact Upd.head | apply Upd.tail)) (by rfl) ?_
  refine RS.q rfl (QO.assign) ?_
  refine RS.nil ?_
  refine thenC_n ?_
  refine CS.ret ?_
  refine thenC_r ?_
  refine retQ.mk (H' := []) (.inr rfl) (RVs.cellA ty77 (by rfl) (by repeat (first | exact List.Mem.head _ | refine List.Mem.tail _ ?_)) (by rfl) (RVs.tmp (by rfl) RVs.nil)) (List.nil_sublist _) ?_
  exact ⟨rfl, rfl⟩

theorem histBad (X Y : Int) (a b : Nat) (A : Option Addr) (n c : Nat) (xs : List Nat) (ch : Int) (W : World) (hn : xs.length = n) (hA : FS W A xs) (hfr : frErr X Y (a : Int) (b : Int) n = 0) (hN : n = 4 * (a * b)) (hc : n ≤ c) (hcm : c ≤ maxLen) (ha : 1 ≤ a ∧ a ≤ 256) (hb : 1 ≤ b ∧ b ≤ 256) (lo hi : Nat) (M : Int) (h : ¬ ((0 ≤ ch ∧ ch ≤ 4) ∧ okB lo hi M)) : Fn_ Try.prog 33 #[.agg #[iv X, iv Y, iv (a : Int), iv (b : Int), .slice A n c], iv ch, .agg #[flt lo, flt hi, iv M]] W (fun v H => ∃ e : Int, e ≠ 0 ∧ v = .tuple #[.agg #[.slice none 0 0, iv 0, iv 0, iv 0], iv e] ∧ H = []) := by
  by_cases hch : 0 ≤ ch ∧ ch ≤ 4
  · have hbn : bnE lo hi M ≠ 0 := fun h1 => h ⟨hch, bnE_ok h1⟩
    exact (histBad2 X Y a b A n c xs ch W hn hA hfr hN hc hcm ha hb lo hi M hch.1 hch.2 hbn).mono fun v H h => ⟨_, hbn, h⟩
  · exact (histBad1 X Y a b A n c xs ch W hn hA hfr hN hc hcm ha hb lo hi M hch).mono fun v H h => ⟨3, by decide, h⟩

set_option maxHeartbeats 4000000 in
set_option maxRecDepth 100000 in
theorem histOk (X Y : Int) (a b : Nat) (A : Option Addr) (n c : Nat) (xs : List Nat) (ch : Int) (W : World) (hn : xs.length = n) (hA : FS W A xs) (hfr : frErr X Y (a : Int) (b : Int) n = 0) (hN : n = 4 * (a * b)) (hc : n ≤ c) (hcm : c ≤ maxLen) (ha : 1 ≤ a ∧ a ≤ 256) (hb : 1 ≤ b ∧ b ≤ 256) (lo hi m : Nat) (Bf : Nat → Int) (h0 : 0 ≤ ch) (h4 : ch ≤ 4) (hok : okB lo hi (m : Int)) (hBf : ∀ k, binV lo hi (m : Int) (chanV xs ch k) = Bf k) : Fn_ Try.prog 33 #[.agg #[iv X, iv Y, iv (a : Int), iv (b : Int), .slice A n c], iv ch, .agg #[flt lo, flt hi, iv (m : Int)]] W (fun v H => ∃ g, v = .tuple #[.agg #[.slice (some ⟨g, 0, none⟩) m m, iv ((hB Bf (a * b) (-1) : Nat) : Int), iv ((hB Bf (a * b) (m : Int) : Nat) : Int), iv ((hB Bf (a * b) (-2) : Nat) : Int)], iv 0] ∧ H = [⟨g, 3, rowB Bf (a * b) m⟩]) := by
  have hM := hok.2.2.2.1
  have hM2 := hok.2.2.2.2
  have hrng : ∀ k, Bf k = -2 ∨ Bf k = -1 ∨ Bf k = (m : Int) ∨ (0 ≤ Bf k ∧ Bf k < (m : Int)) := fun k => by rw [← hBf]; exact binV_rng hok
  have hup := Nat.mul_le_mul ha.2 hb.2
  refine Fn_.intro Try.func33 rfl rfl (by rfl) ?_
  refine CS.seq ?_
  refine CS.region ?_
  refine RS.box rfl (by rfl) (by rfl) ?_
  intro g3
  refine RS.box rfl (by rfl) (by rfl) ?_
  intro g5
  refine RS.alloc rfl ty77 ?_
  intro g6
  refine RS.q rfl (QO.assign) ?_
  refine RS.nil ?_
  refine thenC_n ?_
  refine CS.seq ?_
  refine CS.region ?_
  first | (refine RS.q rfl (QO.loadB ty26 (by rfl) (by repeat (first | exact List.Mem.head _ | refine List.Mem.tail _ ?_)) (by rfl)) ?_) | (refine RS.q rfl (QO.loadA ty26 (by rfl) (by repeat (first | exact List.Mem.head _ | refine List.Mem.tail _ ?_)) (by rfl) (by rfl)) ?_) | (refine RS.q rfl (QO.loadOA ty26 (by rfl) (by assumption) (by rfl)) ?_)
  refine RS.q rfl (QO.move) ?_
  refine RS.call rfl (by rfl) ok50 (by rfl) (fun w ho => valsOk X Y a b A n c xs ch _ hn (hA.own ho) hfr hN hc hcm ha hb h0 h4) ?_
  rintro _ _ ⟨gv, rfl, rfl⟩
  refine RS.q rfl (QO.move) ?_
  refine RS.q rfl (QO.extract (by rfl) (by rfl)) ?_
  refine RS.q rfl (QO.extract (by rfl) (by rfl)) ?_
  refine RS.q rfl (QO.assign) ?_
  refine RS.q rfl (QO.assign) ?_
  refine RS.nil ?_
  refine thenC_n ?_
  refine CS.seq ?_
  refine CS.seq ?_
  refine CS.region ?_
  refine RS.q rfl (QO.move) ?_
  refine RS.qv rfl (QO.eql (by rfl) (by rfl)) (congrArg Value.bool (show ((0 : Int) == 0) = true from by decide)) ?_
  refine RS.nil ?_
  refine thenC_n ?_
  refine CS.condT (by rfl) rfl ?_
  refine CS.region ?_
  first | (refine RS.q rfl (QO.loadB ty75 (by rfl) (by repeat (first | exact List.Mem.head _ | refine List.Mem.tail _ ?_)) (by rfl)) ?_) | (refine RS.q rfl (QO.loadA ty75 (by rfl) (by repeat (first | exact List.Mem.head _ | refine List.Mem.tail _ ?_)) (by rfl) (by rfl)) ?_) | (refine RS.q rfl (QO.loadOA ty75 (by rfl) (by assumption) (by rfl)) ?_)
  refine RS.call rfl (by rfl) ok91 (by rfl) (fun w ho => checkBins0 lo hi (m : Int) _ hok) ?_
  rintro _ _ ⟨rfl, rfl⟩
  refine RS.q rfl (QO.assign) ?_
  refine RS.nil ?_
  refine thenC_n ?_
  refine CS.seq ?_
  refine CS.seq ?_
  refine CS.region ?_
  refine RS.q rfl (QO.move) ?_
  refine RS.qv rfl (QO.neq (by rfl) (by rfl)) (congrArg Value.bool (show ((0 : Int) != 0) = false from by decide)) ?_
  refine RS.nil ?_
  refine thenC_n ?_
  refine CS.condF (by rfl) rfl ?_
  refine CS.skip ?_
  refine thenC_n ?_
  refine CS.seq ?_
  refine CS.region ?_
  refine RS.q rfl (QO.fieldAddr fo75_2 (by rfl)) ?_
  first | (refine RS.q rfl (QO.load ty3 (by rfl) (by repeat (first | exact List.Mem.head _ | refine List.Mem.tail _ ?_)) (by rfl)) ?_) | (refine RS.q rfl (QO.loadO ty3 (by rfl) (by assumption)) ?_) | (refine RS.q rfl (QO.load ty3 (by rfl) (by repeat (first | exact List.Mem.head _ | refine List.Mem.tail _ ?_)) (by assumption)) ?_)
  refine RS.make rfl Try.underlying39 ty3 (by rfl) (by rfl) (by omega) (by omega) (by omega) (by omega) ?_
  intro g30
  refine RS.qv rfl (QO.build ty77 pl77 (by rfl)) (show _ = Value.agg #[.slice (some ⟨g30, 0, none⟩) m m, iv 0, iv 0, iv 0] from rfl) ?_
  refine RS.alloc rfl ty77 ?_
  intro g10
  first | refine RS.storeB ty77 (by rfl) (by rfl) (by rfl) (by rfl) (by rfl) (by repeat (first | exact Upd.head | apply Upd.tail)) (by rfl) ?_ | refine RS.storeP ty77 (by rfl) (by rfl) (by rfl) (by rfl) (by rfl) (by repeat (first | exact Upd.head | apply Upd.tail)) (by rfl) ?_
  refine RS.nil ?_
  refine thenC_n ?_
  refine CS.seq ?_
  refine CS.seq ?_
  refine CS.region ?_
  refine RS.q rfl (QO.move) ?_
  refine RS.q rfl (QO.lenS Try.underlying24 (by rfl)) ?_
  refine RS.q rfl (QO.move) ?_
  refine RS.nil ?_
  refine thenC_n ?_
  refine CS.block ?_
  refine CS.loop (X := Nat) (12 :: 13 :: 34 :: 35 :: 36 :: 37 :: 38 :: 39 :: 40 :: 41 :: 42 :: 43 :: 44 :: 45 :: 46 :: 47 :: 48 :: 49 :: 50 :: 51 :: 52 :: 53 :: 54 :: 55 :: 56 :: 57 :: 58 :: 59 :: 60 :: 61 :: 62 :: 63 :: 64 :: 65 :: 66 :: 67 :: 68 :: 69 :: []) (fun k => [(34, iv (k : Int))]) (fun k => [⟨g10, 77, [.slice (some ⟨g30, 0, none⟩) m m, iv ((hB Bf k (-1) : Nat) : Int), iv ((hB Bf k (m : Int) : Nat) : Int), iv ((hB Bf k (-2) : Nat) : Int)]⟩, ⟨g30, 3, rowB Bf k m⟩, ⟨gv, 29, ((List.range (a * b)).map (chanV xs ch)).map flt⟩, ⟨g6, 77, [.slice none 0 0, iv 0, iv 0, iv 0]⟩, ⟨g5, 75, [flt lo, flt hi, iv (m : Int)]⟩, ⟨g3, 26, [iv X, iv Y, iv (a : Int), iv (b : Int), .slice A n c]⟩]) (fun k => k ≤ a * b) (fun k => a * b - k) 0 (Nat.zero_le _) ?_ ?_ ?_
  · exact (by repeat (first | exact kn_nil | refine kn_cons (by rfl) ?_))
  · exact (by rw [rowB_zero]; exact (by repeat (first | exact List.Sublist.refl _ | exact List.nil_sublist _ | refine List.Sublist.cons_cons _ ?_ | refine List.Sublist.cons _ ?_ | exact Sbp.refl | exact Sbp.nil | refine Sbp.cons (by repeat (first | exact Rem.head | apply Rem.tail)) ?_ | exact Sbp.app | refine Sbp.skip ?_ | exact List.sublist_append_left _ _ | exact List.sublist_append_right _ _)))
  · intro k gj8 hz
    refine CS.seq ?_
    refine CS.region ?_
    refine RS.q rfl (QO.lss (by rfl) (by rfl)) ?_
    refine RS.nil ?_
    refine thenC_n ?_
    refine CS.seq ?_
    refine CS.cond (by rfl) (fun hb0 => ?_) (fun hb0 => ?_)
    · have hb0p := of_decide_eq_true hb0
      refine CS.skip ?_
      refine thenC_n ?_
      refine CS.seq ?_
      refine CS.block ?_
      refine CS.seq ?_
      refine CS.region ?_
      have hrk := hrng k
      have q1 := hB_le Bf (-1) k
      have q2 := hB_le Bf (-2) k
      have q3 := hB_le Bf (m : Int) k
      first | (refine RS.q rfl (QO.idx0 Try.underlying24 ty29 (by rfl) (by rfl) (by rfl) (by omega)) ?_) | (refine RS.q rfl (QO.idxn Try.underlying24 ty29 (by rfl) (by rfl) (by rfl) (by omega)) ?_) | (refine RS.q rfl (QO.idx1 Try.underlying24 ty29 (by rfl) (by rfl) (by omega) (by omega)) ?_)
      refine RS.q rfl (QO.load ty29 (by rfl) (by repeat (first | exact List.Mem.head _ | refine List.Mem.tail _ ?_)) (listAt (by omega))) ?_
      refine RS.q rfl (QO.assign) ?_
      refine RS.nil ?_
      refine thenC_n ?_
      refine CS.seq ?_
      refine CS.region ?_
      first | (refine RS.q rfl (QO.loadB ty75 (by rfl) (by repeat (first | exact List.Mem.head _ | refine List.Mem.tail _ ?_)) (by rfl)) ?_) | (refine RS.q rfl (QO.loadA ty75 (by rfl) (by repeat (first | exact List.Mem.head _ | refine List.Mem.tail _ ?_)) (by rfl) (by rfl)) ?_) | (refine RS.q rfl (QO.loadOA ty75 (by rfl) (by assumption) (by rfl)) ?_)
      refine RS.q rfl (QO.move) ?_
      refine RS.call rfl (by rfl) ok92 (by rfl) (fun w ho => binB lo hi (chanV xs ch k) (m : Int) (Bf k) _ hok (hBf k)) ?_
      rintro _ _ ⟨rfl, rfl⟩
      refine RS.q rfl (QO.assign) ?_
      refine RS.nil ?_
      refine thenC_n ?_
      refine CS.seq ?_
      refine CS.region ?_
      refine RS.q rfl (QO.move) ?_
      refine RS.nil ?_
      refine thenC_n ?_
      refine CS.block ?_
      refine CS.seq ?_
      refine CS.region ?_
      refine RS.q rfl (QO.eql (by rfl) (by rfl)) ?_
      refine RS.q rfl (QO.assign) ?_
      refine RS.nil ?_
      refine thenC_n ?_
      refine CS.cond (by rfl) (fun hb1 => ?_) (fun hb1 => ?_)
      · have hb1p := eq_of_beq hb1
        refine CS.region ?_
        refine RS.q rfl (QO.fieldAddr fo77_3 (by rfl)) ?_
        first | (refine RS.q rfl (QO.load ty3 (by rfl) (by repeat (first | exact List.Mem.head _ | refine List.Mem.tail _ ?_)) (by rfl)) ?_) | (refine RS.q rfl (QO.loadO ty3 (by rfl) (by assumption)) ?_) | (refine RS.q rfl (QO.load ty3 (by rfl) (by repeat (first | exact List.Mem.head _ | refine List.Mem.tail _ ?_)) (by assumption)) ?_)
        first | (refine RS.q rfl (QO.add (by rfl) (by rfl) (by omega) (by omega)) ?_) | (refine RS.q rfl (QO.ibin (by rfl) (by rfl) trivial) ?_)
        refine RS.q rfl (QO.fieldAddr fo77_3 (by rfl)) ?_
        refine RS.store1 ty3 rfl (by rfl) (by rfl) (by rfl) (by repeat (first | exact Upd.head | apply Upd.tail)) (by first | (simp; done) | (simp; omega) | omega) ?_
        refine RS.nil ?_
        refine blockC_n ?_
        refine blockC_n ?_
        refine thenC_n ?_
        refine CS.region ?_
        first | (refine RS.q rfl (QO.add (by rfl) (by rfl) (by omega) (by omega)) ?_) | (refine RS.q rfl (QO.ibin (by rfl) (by rfl) trivial) ?_)
        refine RS.q rfl (QO.move) ?_
        refine RS.nil ?_
        refine loopQ_n (by intro t ht; repeat (first | with_reducible exact rfl | exact frame_puts ht (frame_mix ht) _ rfl | (refine frame_put rfl ht ?_) | (refine frame_puts ht ?_ _ rfl) | exact frame_mix ht | (refine frame_mix2 rfl ht ?_) | exact rfl)) ?_
        exact ⟨k + 1, by omega, by omega, (by repeat (first | exact kn_nil | refine kn_cons (by rfl) ?_)), (by rw [← hB_T (t := -2) (by omega), hB_F (t := -1) (by omega), hB_F (t := (m : Int)) (by omega), ← rowB_same (fun j hj => by omega)]; exact (by repeat (first | exact List.Sublist.refl _ | exact List.nil_sublist _ | refine List.Sublist.cons_cons _ ?_ | refine List.Sublist.cons _ ?_ | exact Sbp.refl | exact Sbp.nil | refine Sbp.cons (by repeat (first | exact Rem.head | apply Rem.tail)) ?_ | exact Sbp.app | refine Sbp.skip ?_ | exact List.sublist_append_left _ _ | exact List.sublist_append_right _ _)))⟩
      · have hb1p := ne_of_beq_false hb1
        refine CS.seq ?_
        refine CS.region ?_
        refine RS.q rfl (QO.eql (by rfl) (by rfl)) ?_
        refine RS.q rfl (QO.assign) ?_
        refine RS.nil ?_
        refine thenC_n ?_
        refine CS.cond (by rfl) (fun hb2 => ?_) (fun hb2 => ?_)
        · have hb2p := eq_of_beq hb2
          refine CS.region ?_
          refine RS.q rfl (QO.fieldAddr fo77_1 (by rfl)) ?_
          first | (refine RS.q rfl (QO.load ty3 (by rfl) (by repeat (first | exact List.Mem.head _ | refine List.Mem.tail _ ?_)) (by rfl)) ?_) | (refine RS.q rfl (QO.loadO ty3 (by rfl) (by assumption)) ?_) | (refine RS.q rfl (QO.load ty3 (by rfl) (by repeat (first | exact List.Mem.head _ | refine List.Mem.tail _ ?_)) (by assumption)) ?_)
          first | (refine RS.q rfl (QO.add (by rfl) (by rfl) (by omega) (by omega)) ?_) | (refine RS.q rfl (QO.ibin (by rfl) (by rfl) trivial) ?_)
          refine RS.q rfl (QO.fieldAddr fo77_1 (by rfl)) ?_
          refine RS.store1 ty3 rfl (by rfl) (by rfl) (by rfl) (by repeat (first | exact Upd.head | apply Upd.tail)) (by first | (simp; done) | (simp; omega) | omega) ?_
          refine RS.nil ?_
          refine blockC_n ?_
          refine blockC_n ?_
          refine thenC_n ?_
          refine CS.region ?_
          first | (refine RS.q rfl (QO.add (by rfl) (by rfl) (by omega) (by omega)) ?_) | (refine RS.q rfl (QO.ibin (by rfl) (by rfl) trivial) ?_)
          refine RS.q rfl (QO.move) ?_
          refine RS.nil ?_
          refine loopQ_n (by intro t ht; repeat (first | with_reducible exact rfl | exact frame_puts ht (frame_mix ht) _ rfl | (refine frame_put rfl ht ?_) | (refine frame_puts ht ?_ _ rfl) | exact frame_mix ht | (refine frame_mix2 rfl ht ?_) | exact rfl)) ?_
          exact ⟨k + 1, by omega, by omega, (by repeat (first | exact kn_nil | refine kn_cons (by rfl) ?_)), (by rw [← hB_T (t := -1) (by omega), hB_F (t := -2) (by omega), hB_F (t := (m : Int)) (by omega), ← rowB_same (fun j hj => by omega)]; exact (by repeat (first | exact List.Sublist.refl _ | exact List.nil_sublist _ | refine List.Sublist.cons_cons _ ?_ | refine List.Sublist.cons _ ?_ | exact Sbp.refl | exact Sbp.nil | refine Sbp.cons (by repeat (first | exact Rem.head | apply Rem.tail)) ?_ | exact Sbp.app | refine Sbp.skip ?_ | exact List.sublist_append_left _ _ | exact List.sublist_append_right _ _)))⟩
        · have hb2p := ne_of_beq_false hb2
          refine CS.seq ?_
          refine CS.region ?_
          refine RS.q rfl (QO.fieldAddr fo75_2 (by rfl)) ?_
          first | (refine RS.q rfl (QO.load ty3 (by rfl) (by repeat (first | exact List.Mem.head _ | refine List.Mem.tail _ ?_)) (by rfl)) ?_) | (refine RS.q rfl (QO.loadO ty3 (by rfl) (by assumption)) ?_) | (refine RS.q rfl (QO.load ty3 (by rfl) (by repeat (first | exact List.Mem.head _ | refine List.Mem.tail _ ?_)) (by assumption)) ?_)
          refine RS.q rfl (QO.eql (by rfl) (by rfl)) ?_
          refine RS.q rfl (QO.assign) ?_
          refine RS.nil ?_
          refine thenC_n ?_
          refine CS.cond (by rfl) (fun hb3 => ?_) (fun hb3 => ?_)
          · have hb3p := eq_of_beq hb3
            refine CS.region ?_
            refine RS.q rfl (QO.fieldAddr fo77_2 (by rfl)) ?_
            first | (refine RS.q rfl (QO.load ty3 (by rfl) (by repeat (first | exact List.Mem.head _ | refine List.Mem.tail _ ?_)) (by rfl)) ?_) | (refine RS.q rfl (QO.loadO ty3 (by rfl) (by assumption)) ?_) | (refine RS.q rfl (QO.load ty3 (by rfl) (by repeat (first | exact List.Mem.head _ | refine List.Mem.tail _ ?_)) (by assumption)) ?_)
            first | (refine RS.q rfl (QO.add (by rfl) (by rfl) (by omega) (by omega)) ?_) | (refine RS.q rfl (QO.ibin (by rfl) (by rfl) trivial) ?_)
            refine RS.q rfl (QO.fieldAddr fo77_2 (by rfl)) ?_
            refine RS.store1 ty3 rfl (by rfl) (by rfl) (by rfl) (by repeat (first | exact Upd.head | apply Upd.tail)) (by first | (simp; done) | (simp; omega) | omega) ?_
            refine RS.nil ?_
            refine blockC_n ?_
            refine blockC_n ?_
            refine thenC_n ?_
            refine CS.region ?_
            first | (refine RS.q rfl (QO.add (by rfl) (by rfl) (by omega) (by omega)) ?_) | (refine RS.q rfl (QO.ibin (by rfl) (by rfl) trivial) ?_)
            refine RS.q rfl (QO.move) ?_
            refine RS.nil ?_
            refine loopQ_n (by intro t ht; repeat (first | with_reducible exact rfl | exact frame_puts ht (frame_mix ht) _ rfl | (refine frame_put rfl ht ?_) | (refine frame_puts ht ?_ _ rfl) | exact frame_mix ht | (refine frame_mix2 rfl ht ?_) | exact rfl)) ?_
            exact ⟨k + 1, by omega, by omega, (by repeat (first | exact kn_nil | refine kn_cons (by rfl) ?_)), (by rw [← hB_T (t := (m : Int)) (by omega), hB_F (t := -1) (by omega), hB_F (t := -2) (by omega), ← rowB_same (fun j hj => by omega)]; exact (by repeat (first | exact List.Sublist.refl _ | exact List.nil_sublist _ | refine List.Sublist.cons_cons _ ?_ | refine List.Sublist.cons _ ?_ | exact Sbp.refl | exact Sbp.nil | refine Sbp.cons (by repeat (first | exact Rem.head | apply Rem.tail)) ?_ | exact Sbp.app | refine Sbp.skip ?_ | exact List.sublist_append_left _ _ | exact List.sublist_append_right _ _)))⟩
          · have hb3p := ne_of_beq_false hb3
            refine CS.region ?_
            obtain ⟨jn, hjn⟩ : ∃ q : Nat, Bf k = (q : Int) := ⟨(Bf k).toNat, by omega⟩
            have q4 := hB_le Bf (jn : Int) k
            refine RS.q rfl (QO.fieldAddr fo77_0 (by rfl)) ?_
            first | (refine RS.q rfl (QO.load ty39 (by rfl) (by repeat (first | exact List.Mem.head _ | refine List.Mem.tail _ ?_)) (by rfl)) ?_) | (refine RS.q rfl (QO.loadO ty39 (by rfl) (by assumption)) ?_) | (refine RS.q rfl (QO.load ty39 (by rfl) (by repeat (first | exact List.Mem.head _ | refine List.Mem.tail _ ?_)) (by assumption)) ?_)
            refine RS.qv rfl (QO.move) (congrArg iv hjn) ?_
            first | (refine RS.q rfl (QO.idx0 Try.underlying39 ty3 (by rfl) (by rfl) (by rfl) (by omega)) ?_) | (refine RS.q rfl (QO.idxn Try.underlying39 ty3 (by rfl) (by rfl) (by rfl) (by omega)) ?_) | (refine RS.q rfl (QO.idx1 Try.underlying39 ty3 (by rfl) (by rfl) (by omega) (by omega)) ?_)
            refine RS.q rfl (QO.load ty3 (by rfl) (by repeat (first | exact List.Mem.head _ | refine List.Mem.tail _ ?_)) (rowB_at (M := m) (j := jn) (by omega))) ?_
            first | (refine RS.q rfl (QO.add (by rfl) (by rfl) (by omega) (by omega)) ?_) | (refine RS.q rfl (QO.ibin (by rfl) (by rfl) trivial) ?_)
            first | (refine RS.q rfl (QO.idx0 Try.underlying39 ty3 (by rfl) (by rfl) (by rfl) (by omega)) ?_) | (refine RS.q rfl (QO.idxn Try.underlying39 ty3 (by rfl) (by rfl) (by rfl) (by omega)) ?_) | (refine RS.q rfl (QO.idx1 Try.underlying39 ty3 (by rfl) (by rfl) (by omega) (by omega)) ?_)
            refine RS.store1e ty3 rfl (by rfl) (by rfl) (by rfl) (rowB_set (B := Bf) (N := k) (M := m) (j := jn) (by omega) hjn) (by repeat (first | exact Upd.head | apply Upd.tail)) (by rw [rowB_len]; omega) ?_
            refine RS.nil ?_
            refine blockC_n ?_
            refine blockC_n ?_
            refine thenC_n ?_
            refine CS.region ?_
            first | (refine RS.q rfl (QO.add (by rfl) (by rfl) (by omega) (by omega)) ?_) | (refine RS.q rfl (QO.ibin (by rfl) (by rfl) trivial) ?_)
            refine RS.q rfl (QO.move) ?_
            refine RS.nil ?_
            refine loopQ_n (by intro t ht; repeat (first | with_reducible exact rfl | exact frame_puts ht (frame_mix ht) _ rfl | (refine frame_put rfl ht ?_) | (refine frame_puts ht ?_ _ rfl) | exact frame_mix ht | (refine frame_mix2 rfl ht ?_) | exact rfl)) ?_
            exact ⟨k + 1, by omega, by omega, (by repeat (first | exact kn_nil | refine kn_cons (by rfl) ?_)), (by rw [hB_F (t := -1) (by omega), hB_F (t := (m : Int)) (by omega), hB_F (t := -2) (by omega)]; exact (by repeat (first | exact List.Sublist.refl _ | exact List.nil_sublist _ | refine List.Sublist.cons_cons _ ?_ | refine List.Sublist.cons _ ?_ | exact Sbp.refl | exact Sbp.nil | refine Sbp.cons (by repeat (first | exact Rem.head | apply Rem.tail)) ?_ | exact Sbp.app | refine Sbp.skip ?_ | exact List.sublist_append_left _ _ | exact List.sublist_append_right _ _)))⟩
    · have hb0p := of_decide_eq_false hb0
      refine CS.exit ?_
      refine thenC_x ?_
      refine loopQ_x ?_
      refine blockC_x ?_
      refine thenC_n ?_
      refine CS.seq ?_
      refine CS.region ?_
      first | (refine RS.q rfl (QO.loadB ty77 (by rfl) (by repeat (first | exact List.Mem.head _ | refine List.Mem.tail _ ?_)) (by rfl)) ?_) | (refine RS.q rfl (QO.loadA ty77 (by rfl) (by repeat (first | exact List.Mem.head _ | refine List.Mem.tail _ ?_)) (by rfl) (by rfl)) ?_) | (refine RS.q rfl (QO.loadOA ty77 (by rfl) (by assumption) (by rfl)) ?_)
      first | refine RS.storeB ty77 (by rfl) (by rfl) (by rfl) (by rfl) (by rfl) (by repeat (first | exact Upd.head | apply Upd.tail)) (by rfl) ?_ | refine RS.storeP ty77 (by rfl) (by rfl) (by rfl) (by rfl) (by rfl) (by repeat (first | exact Upd.head | apply Upd.tail)) (by rfl) ?_
      refine RS.q rfl (QO.assign) ?_
      refine RS.nil ?_
      refine thenC_n ?_
      refine CS.ret ?_
      refine retQ.mk (H' := [⟨g30, 3, rowB Bf k m⟩]) (.inr rfl) (RVs.cellA ty77 (by rfl) (by repeat (first | exact List.Mem.head _ | refine List.Mem.tail _ ?_)) (by rfl) (RVs.tmp (by rfl) RVs.nil)) (by repeat (first | exact List.Sublist.refl _ | exact List.nil_sublist _ | refine List.Sublist.cons_cons _ ?_ | refine List.Sublist.cons _ ?_ | exact Sbp.refl | exact Sbp.nil | refine Sbp.cons (by repeat (first | exact Rem.head | apply Rem.tail)) ?_ | exact Sbp.app | refine Sbp.skip ?_ | exact List.sublist_append_left _ _ | exact List.sublist_append_right _ _)) ?_
      obtain rfl : k = a * b := by omega
      exact ⟨g30, rfl, rfl⟩

end Go.Proofs.Ytapcgokcfmklbaa

namespace Go.Proofs.Ytapcgokcfmklbaa
open Go Go.RowKit

/-- what is known of a tile of a small frame -/
structure TileOk (X Y : Int) (a b : Nat) (t : Rg) : Prop where
  x0 : X ≤ t.1
  x1 : t.1 + t.2.2.1 ≤ X + a
  y0 : Y ≤ t.2.1
  y1 : t.2.1 + t.2.2.2 ≤ Y + b
  w0 : 1 ≤ t.2.2.1
  h0 : 1 ≤ t.2.2.2
theorem tile_ok {X Y : Int} {a b s i j : Nat} (hs : 1 ≤ s) (ha : 1 ≤ a) (hb : 1 ≤ b) (hi : i < cntI X a s) (hj : j < cntI Y b s) : TileOk X Y a b (tile X Y a b s i j) := by
  have h1 := tb_cov (X := X) hs ha hi
  have h2 := tb_cov (X := Y) hs hb hj
  have h3 := cov_succ (X := X) hs hi
  have h4 := cov_succ (X := Y) hs hj
  have h5 := cov_bd X a s (i + 1)
  have h6 := cov_bd Y b s (j + 1)
  have h7 := tw_pos (X := X) hs ha hi
  have h8 := tw_pos (X := Y) hs hb hj
  constructor <;> simp only [tile] <;> omega
theorem tiles_ok {X Y : Int} {a b s : Nat} {t : Rg} (hs : 1 ≤ s) (ha : 1 ≤ a) (hb : 1 ≤ b) (h : t ∈ rowsL X Y a b s (cntI Y b s)) : TileOk X Y a b t := by
  obtain ⟨i, j, hi, hj, rfl⟩ := mem_rows _ h
  exact tile_ok hs ha hb hi hj
theorem lumaV_cl {w q q' : Nat → Nat} (h : ∀ c, c < 3 → cl (q c) = cl (q' c)) : lumaV w q = lumaV w q' := by
  unfold lumaV
  rw [fo_congr (op := .mul) rfl (h 0 (by omega)), fo_congr (op := .mul) rfl (h 1 (by omega)), fo_congr (op := .mul) rfl (h 2 (by omega))]
/-- where a tile's k-th pixel lies in the frame -/
def tIdx (X Y : Int) (a : Nat) (t : Rg) (k : Nat) : Nat := ((t.2.1 - Y).toNat + k / t.2.2.1.toNat) * a + ((t.1 - X).toNat + k % t.2.2.1.toNat)
theorem cut_at {ys : List Nat} {X Y : Int} {a b : Nat} {t : Rg} (ht : TileOk X Y a b t) {k c : Nat} (hk : k < t.2.2.1.toNat * t.2.2.2.toNat) (hc : c < 4) : (cutV ys X Y a b t.1 t.2.1 t.2.2.1 t.2.2.2).getD (4 * k + c) 0 = cl (ys.getD (4 * tIdx X Y a t k + c) 0) := by
  obtain ⟨x0, x1, y0, y1, w0, h0⟩ := ht
  obtain ⟨tx, ty, tw, th⟩ := t
  simp only at *
  obtain ⟨w, hw⟩ : ∃ w, tw.toNat = w := ⟨_, rfl⟩
  obtain ⟨h, hh⟩ : ∃ h, th.toNat = h := ⟨_, rfl⟩
  unfold cutV tIdx
  simp only [hw, hh] at hk ⊢
  have hwp : 0 < w := by omega
  obtain ⟨xx, hxx⟩ : ∃ xx, k % w = xx := ⟨_, rfl⟩
  obtain ⟨yy, hyy⟩ : ∃ yy, k / w = yy := ⟨_, rfl⟩
  have hxb : xx < w := hxx ▸ Nat.mod_lt _ hwp
  have hyb : yy < h := hyy ▸ Nat.div_lt_of_lt_mul hk
  have hke : k = w * yy + xx := by rw [← hxx, ← hyy]; exact (Nat.div_add_mod k w).symm
  have hlen : 4 * k + c < 4 * (w * h) := by omega
  rw [List.getD_eq_getElem?_getD, madeV, List.getElem?_map, List.getElem?_range hlen]
  show madeF (pixF ys X Y a b) tx ty w (4 * k + c) = _
  rw [hxx, hyy, hke, madeF_at hxb hc, pixF_at (i := (tx - X).toNat + xx) (j := (ty - Y).toNat + yy) (by rw [near_in (by omega) (by omega)]; omega) (by rw [near_in (by omega) (by omega)]; omega)]
theorem chan_cut {ys : List Nat} {X Y : Int} {a b : Nat} {t : Rg} {ch : Int} (ht : TileOk X Y a b t) (h0 : 0 ≤ ch) (h4 : ch ≤ 4) {k : Nat} (hk : k < t.2.2.1.toNat * t.2.2.2.toNat) : chanV (cutV ys X Y a b t.1 t.2.1 t.2.2.1 t.2.2.2) ch k = chanV ys ch (tIdx X Y a t k) := by
  unfold chanV
  split
  · exact lumaV_cl fun c hc => by rw [cut_at ht hk (by omega), cl_cl]
  · rw [cut_at ht hk (by omega), cl_cl]
/-- the number of the bin of a tile's k-th value -/
def tBf (ys : List Nat) (X Y : Int) (a b : Nat) (ch : Int) (lo hi m : Nat) (t : Rg) (k : Nat) : Int := binV lo hi (m : Int) (chanV (cutV ys X Y a b t.1 t.2.1 t.2.2.1 t.2.2.2) ch k)
def hT (ys : List Nat) (X Y : Int) (a b : Nat) (ch : Int) (lo hi m : Nat) (x : Int) (t : Rg) : Nat := hB (tBf ys X Y a b ch lo hi m t) (t.2.2.1.toNat * t.2.2.2.toNat) x
def fBf (ys : List Nat) (ch : Int) (lo hi m : Nat) (k : Nat) : Int := binV lo hi (m : Int) (chanV ys ch k)
def GG (ys : List Nat) (a : Nat) (ch : Int) (lo hi m : Nat) (x : Int) (i j : Nat) : Nat := ind (decide (fBf ys ch lo hi m (j * a + i) = x))
section
variable {ys : List Nat} {X Y : Int} {a b : Nat} {ch : Int} {lo hi m : Nat} {x : Int}
theorem hT_is {t : Rg} (ht : TileOk X Y a b t) (h0 : 0 ≤ ch) (h4 : ch ≤ 4) : hT ys X Y a b ch lo hi m x t = inT (GG ys a ch lo hi m x) X Y t := by
  have hw := ht.w0
  unfold hT inT hB
  rw [← sm_prod (fun i j => GG ys a ch lo hi m x ((t.1 - X).toNat + i) ((t.2.1 - Y).toNat + j)) (by omega)]
  refine sm_congr fun k hk => ?_
  unfold GG
  unfold tBf
  rw [chan_cut ht h0 h4 hk]
  rfl
theorem sumR_congr {f g : Rg → Nat} : ∀ {l : List Rg}, (∀ t ∈ l, f t = g t) → sumR f l = sumR g l
  | [], _ => rfl
  | t :: l, h => by
    show f t + sumR f l = g t + sumR g l
    rw [h t (List.mem_cons_self ..), sumR_congr fun u hu => h u (List.mem_cons_of_mem _ hu)]
theorem sum_all {s : Nat} (hs : 1 ≤ s) (ha : 1 ≤ a) (hb : 1 ≤ b) (h0 : 0 ≤ ch) (h4 : ch ≤ 4) : sumR (hT ys X Y a b ch lo hi m x) (rowsL X Y a b s (cntI Y b s)) = hB (fBf ys ch lo hi m) (a * b) x := by
  rw [sumR_congr (g := inT (GG ys a ch lo hi m x) X Y) fun t ht => hT_is (tiles_ok hs ha hb ht) h0 h4, tiles_sum hs ha hb]
  unfold hB
  refine sm_congr fun k _ => ?_
  unfold GG
  rw [Nat.mul_comm, Nat.div_add_mod]
theorem sumR_take_le {f : Rg → Nat} {l : List Rg} {k : Nat} : sumR f (l.take k) ≤ sumR f l := by
  conv => rhs; rw [← List.take_append_drop k l, sumR_append]
  omega
end
/-- a row of sums -/
def rowN (f : Nat → Nat) (m : Nat) : List Value := (List.range m).map fun j : Nat => iv ((f j : Nat) : Int)
theorem rowN_len (f : Nat → Nat) (m : Nat) : (rowN f m).length = m := by simp [rowN]
theorem rowN_at {f : Nat → Nat} {m j : Nat} (h : j < m) : (rowN f m)[j]? = some (iv ((f j : Nat) : Int)) := by
  unfold rowN; rw [List.getElem?_map, List.getElem?_range h]; rfl
theorem rowN_congr {f g : Nat → Nat} {m : Nat} (h : ∀ j, j < m → f j = g j) : rowN f m = rowN g m := by
  unfold rowN
  exact List.map_congr_left fun j hj => by rw [h j (List.mem_range.1 hj)]
theorem rowN_get {f : Nat → Nat} {m i : Nat} (h : i < (rowN f m).length) : (rowN f m)[i] = iv ((f i : Nat) : Int) := by
  have h1 := rowN_at (f := f) (show i < m by rwa [rowN_len] at h)
  rw [List.getElem?_eq_getElem h] at h1
  injection h1
def addU (f g : Nat → Nat) (q j : Nat) : Nat := if j < q then f j + g j else f j
theorem addU_at (f g : Nat → Nat) (q : Nat) : addU f g q q = f q := if_neg (by omega)
theorem addU_0 (f g : Nat → Nat) (m : Nat) : rowN f m = rowN (addU f g 0) m := rowN_congr fun j _ => (if_neg (by omega)).symm
theorem addU_all (f g : Nat → Nat) (m : Nat) : rowN (addU f g m) m = rowN (fun j => f j + g j) m := rowN_congr fun j hj => if_pos hj
theorem addU_set {f g : Nat → Nat} {m q : Nat} (_ : q < m) : (rowN (addU f g q) m).set q (iv (((f q : Nat) : Int) + ((g q : Nat) : Int))) = rowN (addU f g (q + 1)) m := by
  apply List.ext_getElem
  · simp [rowN]
  · intro i h1 h2
    rw [List.getElem_set, rowN_get]
    by_cases e : q = i
    · subst e
      rw [if_pos rfl, rowN_get]
      unfold addU
      rw [if_pos (by omega), Int.natCast_add]
    · rw [if_neg e, rowN_get]
      unfold addU
      by_cases h3 : i < q
      · rw [if_pos h3, if_pos (by omega)]
      · rw [if_neg h3, if_neg (by omega)]
end Go.Proofs.Ytapcgokcfmklbaa

namespace Go.Proofs.Ytapcgokcfmklbaa
open Go Go.RowKit

theorem fr0 {X Y : Int} {a b n : Nat} (h : regErr X Y (a : Int) (b : Int) = 0) (hn : n = 4 * (a * b)) : frErr X Y (a : Int) (b : Int) n = 0 := by
  have hcast : ((a * b : Nat) : Int) = (a : Int) * (b : Int) := Int.natCast_mul ..
  have h41 : 4 * (a : Int) * (b : Int) = 4 * ((a : Int) * (b : Int)) := Int.mul_assoc ..
  unfold frErr
  rw [h, if_neg (by simp), if_neg (by omega)]
theorem tL_ok {X Y side : Int} {a b : Nat} (h : tErr X Y (a : Int) (b : Int) side = 0) : ∃ s : Nat, 1 ≤ s ∧ tL X Y (a : Int) (b : Int) side = rowsL X Y a b s (cntI Y b s) := by
  have h2 : tL X Y (a : Int) (b : Int) side = rowsL X Y a b side.toNat (cntI Y b side.toNat) := by
    unfold tL; rw [if_pos h]; rfl
  unfold tErr at h
  split at h
  · rename_i h1; exact absurd h h1
  · split at h
    · omega
    · exact ⟨side.toNat, by omega, h2⟩
theorem rows_pos {X Y : Int} {a b s : Nat} (hs : 1 ≤ s) (ha : 1 ≤ a) (hb : 1 ≤ b) : 0 < (rowsL X Y a b s (cntI Y b s)).length := by
  rw [rowsL_len]
  have h1 := (cntI_iff (X := X) (w := a) (i := 0) hs).2 (by omega)
  have h2 := (cntI_iff (X := Y) (w := b) (i := 0) hs).2 (by omega)
  exact Nat.mul_pos h2 h1
theorem tile_reg {X Y : Int} {a b : Nat} {t : Rg} (ht : TileOk X Y a b t) (ha : a ≤ 8) (hb : b ≤ 8) (hX : -1000 ≤ X ∧ X ≤ 1000) (hY : -1000 ≤ Y ∧ Y ≤ 1000) : regErr t.1 t.2.1 t.2.2.1 t.2.2.2 = 0 ∧ t.2.2.1 = (t.2.2.1.toNat : Int) ∧ t.2.2.2 = (t.2.2.2.toNat : Int) ∧ 1 ≤ t.2.2.1.toNat ∧ t.2.2.1.toNat ≤ 8 ∧ 1 ≤ t.2.2.2.toNat ∧ t.2.2.2.toNat ≤ 8 := by
  obtain ⟨x0, x1, y0, y1, w0, h0⟩ := ht
  obtain ⟨tx, ty, tw, th⟩ := t
  simp only at *
  refine ⟨?_, by omega, by omega, by omega, by omega, by omega, by omega⟩
  have h6 : tw * th ≤ 8 * 8 := Int.mul_le_mul (by omega) (by omega) (by omega) (by omega)
  unfold regErr outR
  rw [if_neg (by omega), if_neg (by omega), if_neg (by simp; omega)]
theorem tile_cut {X Y : Int} {a b : Nat} {t : Rg} (ht : TileOk X Y a b t) (ha : a ≤ 8) (hb : b ≤ 8) (hX : -1000 ≤ X ∧ X ≤ 1000) (hY : -1000 ≤ Y ∧ Y ≤ 1000) : cutE t.1 t.2.1 t.2.2.1 t.2.2.2 X Y (a : Int) (b : Int) = 0 := by
  refine cut_3 (tile_reg ht ha hb hX hY).1 ?_
  obtain ⟨x0, x1, y0, y1, w0, h0⟩ := ht
  unfold insB
  exact decide_eq_true ⟨x0, y0, by omega, by omega⟩
theorem cutV_len {xs : List Nat} {X Y : Int} {a b : Nat} {rx ry rw_ rh : Int} : (cutV xs X Y a b rx ry rw_ rh).length = 4 * (rw_.toNat * rh.toNat) := by unfold cutV; rw [madeV_len]
theorem hT_le {ys : List Nat} {X Y : Int} {a b : Nat} {ch : Int} {lo hi m : Nat} {x : Int} {t : Rg} (ht : TileOk X Y a b t) (ha : a ≤ 8) (hb : b ≤ 8) : hT ys X Y a b ch lo hi m x t ≤ 64 := by
  have h1 := hB_le (tBf ys X Y a b ch lo hi m t) x (t.2.2.1.toNat * t.2.2.2.toNat)
  obtain ⟨x0, x1, y0, y1, w0, h0⟩ := ht
  have h2 : t.2.2.1.toNat * t.2.2.2.toNat ≤ 8 * 8 := Nat.mul_le_mul (by omega) (by omega)
  unfold hT; omega
theorem rowN_zero {f : Nat → Rg → Nat} {l : List Rg} {m : Nat} : rowN (fun j => sumR (f j) (l.take 0)) m = List.replicate m (iv 0) := by
  apply List.ext_getElem
  · simp [rowN]
  · intro i h1 h2; rw [rowN_get]; simp [sumR]
theorem sbp2 {x x' y y' : B} {L H : HL} (hx : x' = x) (hy : y' = y) (h : Sbp (x' :: y' :: L) H) : Sbp (x :: y :: L) H := by subst hx hy; exact h
theorem blk_add {g t : Nat} {v : Value} {a b c p q r a' b' c' : Nat} (h1 : a' = a + p) (h2 : b' = b + q) (h3 : c' = c + r) : (⟨g, t, [v, iv ((a : Int) + (p : Int)), iv ((b : Int) + (q : Int)), iv ((c : Int) + (r : Int))]⟩ : B) = ⟨g, t, [v, iv ((a' : Nat) : Int), iv ((b' : Nat) : Int), iv ((c' : Nat) : Int)]⟩ := by
  rw [h1, h2, h3, Int.natCast_add, Int.natCast_add, Int.natCast_add]
theorem row_fin {g t : Nat} {F G F' : Nat → Nat} {m q : Nat} (hq : q = m) (h : ∀ j, F' j = F j + G j) : (⟨g, t, rowN (addU F G q) m⟩ : B) = ⟨g, t, rowN F' m⟩ := by
  rw [hq, addU_all, rowN_congr (f := F') fun j _ => h j]
end Go.Proofs.Ytapcgokcfmklbaa

namespace Go.Proofs.Ytapcgokcfmklbaa
open Go Go.Proofs Go.RowKit

theorem ok32 : callOK Try.prog 32 = true := by kernel_rfl
theorem ok33 : callOK Try.prog 33 = true := by kernel_rfl
theorem ok34 : callOK Try.prog 34 = true := by kernel_rfl
theorem ok35 : callOK Try.prog 35 = true := by kernel_rfl

theorem cutT (X Y : Int) (a b : Nat) (A : Option Addr) (n c : Nat) (xs : List Nat) (t : Rg) (W : World) (hn : xs.length = n) (hA : FS W A xs) (hN : n = 4 * (a * b)) (hc : n ≤ c) (hcm : c ≤ maxLen) (ha : 1 ≤ a ∧ a ≤ 8) (hb : 1 ≤ b ∧ b ≤ 8) (hX : -1000 ≤ X ∧ X ≤ 1000) (hY : -1000 ≤ Y ∧ Y ≤ 1000) (hfr : frErr X Y (a : Int) (b : Int) n = 0) (hto : TileOk X Y a b t) :
    Fn_ Try.prog 35 #[.agg #[iv X, iv Y, iv (a : Int), iv (b : Int), .slice A n c], .agg #[iv t.1, iv t.2.1, iv t.2.2.1, iv t.2.2.2]] W (fun v H => ∃ g cap junk, v = .tuple #[.agg #[iv t.1, iv t.2.1, iv t.2.2.1, iv t.2.2.2, .slice (some ⟨g, 0, none⟩) (4 * (t.2.2.1.toNat * t.2.2.2.toNat)) cap], iv 0] ∧ H = [⟨g, 29, (cutV xs X Y a b t.1 t.2.1 t.2.2.1 t.2.2.2).map flt ++ junk⟩] ∧ 4 * (t.2.2.1.toNat * t.2.2.2.toNat) ≤ cap ∧ cap ≤ maxLen) := by
  have h := cut_ X Y a b A n c xs t.1 t.2.1 t.2.2.1 t.2.2.2 W hn hA hN hc hcm (by omega) (by omega) (by omega) (by omega) hfr
  refine h.mono fun v H hr => ?_
  rcases hr with ⟨_, g, cap, junk, h1, h2, h3, h4⟩ | ⟨h1, _⟩
  · rw [cutV_len] at h1 h3
    exact ⟨g, cap, junk, h1, h2, h3, h4⟩
  · exact absurd (tile_cut hto ha.2 hb.2 hX hY) h1

theorem histT (X Y : Int) (a b : Nat) (xs : List Nat) (ch : Int) (lo hi m : Nat) (t : Rg) (g cap : Nat) (HT : Int → Rg → Nat) (W : World) (hA : FS W (some ⟨g, 0, none⟩) (cutV xs X Y a b t.1 t.2.1 t.2.2.1 t.2.2.2)) (hc : 4 * (t.2.2.1.toNat * t.2.2.2.toNat) ≤ cap) (hcm : cap ≤ maxLen) (ha : 1 ≤ a ∧ a ≤ 8) (hb : 1 ≤ b ∧ b ≤ 8) (hX : -1000 ≤ X ∧ X ≤ 1000) (hY : -1000 ≤ Y ∧ Y ≤ 1000) (hto : TileOk X Y a b t) (h0 : 0 ≤ ch) (h4 : ch ≤ 4) (hok : okB lo hi (m : Int)) (hHT : hT xs X Y a b ch lo hi m = HT) :
    Fn_ Try.prog 33 #[.agg #[iv t.1, iv t.2.1, iv t.2.2.1, iv t.2.2.2, .slice (some ⟨g, 0, none⟩) (4 * (t.2.2.1.toNat * t.2.2.2.toNat)) cap], iv ch, .agg #[flt lo, flt hi, iv (m : Int)]] W (fun v H => ∃ g2, v = .tuple #[.agg #[.slice (some ⟨g2, 0, none⟩) m m, iv ((HT (-1) t : Nat) : Int), iv ((HT (m : Int) t : Nat) : Int), iv ((HT (-2) t : Nat) : Int)], iv 0] ∧ H = [⟨g2, 3, rowN (fun j => HT (j : Int) t) m⟩]) := by
  subst hHT
  obtain ⟨hr, e1, e2, w0, w1, k0, k1⟩ := tile_reg hto ha.2 hb.2 hX hY
  have hr2 : regErr t.1 t.2.1 (t.2.2.1.toNat : Int) (t.2.2.2.toNat : Int) = 0 := by rw [← e1, ← e2]; exact hr
  have h := histOk t.1 t.2.1 t.2.2.1.toNat t.2.2.2.toNat (some ⟨g, 0, none⟩) (4 * (t.2.2.1.toNat * t.2.2.2.toNat)) cap (cutV xs X Y a b t.1 t.2.1 t.2.2.1 t.2.2.2) ch W cutV_len hA (fr0 hr2 rfl) rfl hc hcm (by omega) (by omega) lo hi m (tBf xs X Y a b ch lo hi m t) h0 h4 hok (fun _ => rfl)
  rw [← e1, ← e2] at h
  exact h

set_option maxHeartbeats 4000000 in
set_option maxRecDepth 100000 in
theorem tsBad (x y wi he : Int) (A : Option Addr) (n c : Nat) (xs : List Nat) (side ch : Int) (lo hi : Nat) (M : Int) (W : World) (hn : xs.length = n) (hA : FS W A xs) (hlx : n ≤ maxLen) (hbad : ¬ ((0 ≤ ch ∧ ch ≤ 4) ∧ okB lo hi M)) : Fn_ Try.prog 7 #[.agg #[iv x, iv y, iv wi, iv he, .slice A n c], iv side, iv ch, .agg #[flt lo, flt hi, iv M]] W (fun v H => v = .bool true ∧ H = []) := by
  refine Fn_.intro Try.func7 rfl rfl (by rfl) ?_
  refine CS.seq ?_
  refine CS.region ?_
  refine RS.box rfl (by rfl) (by rfl) ?_
  intro g4
  refine RS.box rfl (by rfl) (by rfl) ?_
  intro g7
  refine RS.q rfl (QO.assign) ?_
  refine RS.nil ?_
  refine thenC_n ?_
  refine CS.seq ?_
  refine CS.seq ?_
  refine CS.region ?_
  refine RS.call rfl (by rfl) ok30 (by rfl) (fun w ho => landedT _) ?_
  rintro _ _ ⟨rfl, rfl⟩
  refine RS.qv rfl (QO.not (by rfl)) (congrArg Value.bool (show (!true) = false from rfl)) ?_
  refine RS.nil ?_
  refine thenC_n ?_
  refine CS.condF (by rfl) rfl ?_
  refine CS.skip ?_
  refine thenC_n ?_
  refine CS.seq ?_
  refine CS.region ?_
  first | (refine RS.q rfl (QO.loadB ty26 (by rfl) (by repeat (first | exact List.Mem.head _ | refine List.Mem.tail _ ?_)) (by rfl)) ?_) | (refine RS.q rfl (QO.loadA ty26 (by rfl) (by repeat (first | exact List.Mem.head _ | refine List.Mem.tail _ ?_)) (by rfl) (by rfl)) ?_) | (refine RS.q rfl (QO.loadOA ty26 (by rfl) (by assumption) (by rfl)) ?_)
  refine RS.call rfl (by rfl) ok32 (by rfl) (fun w ho => small_ x y wi he A n c xs _ hn (hA.own ho) hlx) ?_
  intro v25 H25 h25
  obtain ⟨gf, X, Y, a, b, ys, rfl, rfl, hys, ha, hb, hX, hY, hab⟩ := h25
  have hr0 := regErr_small ha hb hX hY
  have hfr := fr0 hr0 hys
  have hym : ys.length ≤ maxLen := by unfold maxLen; omega
  first | refine RS.storeB ty26 (by rfl) (by rfl) (by rfl) (by rfl) (by rfl) (by repeat (first | exact Upd.head | apply Upd.tail)) (by rfl) ?_ | refine RS.storeP ty26 (by rfl) (by rfl) (by rfl) (by rfl) (by rfl) (by repeat (first | exact Upd.head | apply Upd.tail)) (by rfl) ?_
  refine RS.nil ?_
  refine thenC_n ?_
  refine CS.seq ?_
  refine CS.region ?_
  first | (refine RS.q rfl (QO.loadB ty26 (by rfl) (by repeat (first | exact List.Mem.head _ | refine List.Mem.tail _ ?_)) (by rfl)) ?_) | (refine RS.q rfl (QO.loadA ty26 (by rfl) (by repeat (first | exact List.Mem.head _ | refine List.Mem.tail _ ?_)) (by rfl) (by rfl)) ?_) | (refine RS.q rfl (QO.loadOA ty26 (by rfl) (by assumption) (by rfl)) ?_)
  refine RS.q rfl (QO.move) ?_
  first | (refine RS.q rfl (QO.loadB ty75 (by rfl) (by repeat (first | exact List.Mem.head _ | refine List.Mem.tail _ ?_)) (by rfl)) ?_) | (refine RS.q rfl (QO.loadA ty75 (by rfl) (by repeat (first | exact List.Mem.head _ | refine List.Mem.tail _ ?_)) (by rfl) (by rfl)) ?_) | (refine RS.q rfl (QO.loadOA ty75 (by rfl) (by assumption) (by rfl)) ?_)
  refine RS.call rfl (by rfl) ok33 (by rfl) (fun w ho => histBad X Y a b (some ⟨gf, 0, none⟩) ys.length ys.length ys ch _ rfl (FS.blk' ho (by repeat (first | exact List.Mem.head _ | refine List.Mem.tail _ ?_))) hfr hys (Nat.le_refl _) hym (by omega) (by omega) lo hi M hbad) ?_
  rintro _ _ ⟨e0, he0, rfl, rfl⟩
  refine RS.q rfl (QO.move) ?_
  refine RS.q rfl (QO.extract (by rfl) (by rfl)) ?_
  refine RS.q rfl (QO.extract (by rfl) (by rfl)) ?_
  refine RS.alloc rfl ty77 ?_
  intro g9
  first | refine RS.storeB ty77 (by rfl) (by rfl) (by rfl) (by rfl) (by rfl) (by repeat (first | exact Upd.head | apply Upd.tail)) (by rfl) ?_ | refine RS.storeP ty77 (by rfl) (by rfl) (by rfl) (by rfl) (by rfl) (by repeat (first | exact Upd.head | apply Upd.tail)) (by rfl) ?_
  refine RS.q rfl (QO.assign) ?_
  refine RS.nil ?_
  refine thenC_n ?_
  refine CS.seq ?_
  refine CS.seq ?_
  refine CS.region ?_
  refine RS.q rfl (QO.move) ?_
  refine RS.qv rfl (QO.neq (by rfl) (by rfl)) (congrArg Value.bool (show (e0 != 0) = true from bne_iff_ne.2 he0)) ?_
  refine RS.nil ?_
  refine thenC_n ?_
  refine CS.condT (by rfl) rfl ?_
  refine CS.seq ?_
  refine CS.region ?_
  refine RS.q rfl (QO.assign) ?_
  refine RS.nil ?_
  refine thenC_n ?_
  refine CS.ret ?_
  refine thenC_r ?_
  refine retQ.mk (H' := []) (.inr rfl) (RVs.tmp (by rfl) RVs.nil) (List.nil_sublist _) ?_
  exact ⟨rfl, rfl⟩

set_option maxHeartbeats 4000000 in
set_option maxRecDepth 100000 in
theorem tsOk (x y wi he : Int) (A : Option Addr) (n c : Nat) (xs : List Nat) (side ch : Int) (lo hi : Nat) (m : Nat) (W : World) (hn : xs.length = n) (hA : FS W A xs) (hlx : n ≤ maxLen) (h0 : 0 ≤ ch) (h4 : ch ≤ 4) (hok : okB lo hi (m : Int)) : Fn_ Try.prog 7 #[.agg #[iv x, iv y, iv wi, iv he, .slice A n c], iv side, iv ch, .agg #[flt lo, flt hi, iv (m : Int)]] W (fun v H => v = .bool true ∧ H = []) := by
  have hM := hok.2.2.2.1
  have hM2 := hok.2.2.2.2
  refine Fn_.intro Try.func7 rfl rfl (by rfl) ?_
  refine CS.seq ?_
  refine CS.region ?_
  refine RS.box rfl (by rfl) (by rfl) ?_
  intro g4
  refine RS.box rfl (by rfl) (by rfl) ?_
  intro g7
  refine RS.q rfl (QO.assign) ?_
  refine RS.nil ?_
  refine thenC_n ?_
  refine CS.seq ?_
  refine CS.seq ?_
  refine CS.region ?_
  refine RS.call rfl (by rfl) ok30 (by rfl) (fun w ho => landedT _) ?_
  rintro _ _ ⟨rfl, rfl⟩
  refine RS.qv rfl (QO.not (by rfl)) (congrArg Value.bool (show (!true) = false from rfl)) ?_
  refine RS.nil ?_
  refine thenC_n ?_
  refine CS.condF (by rfl) rfl ?_
  refine CS.skip ?_
  refine thenC_n ?_
  refine CS.seq ?_
  refine CS.region ?_
  first | (refine RS.q rfl (QO.loadB ty26 (by rfl) (by repeat (first | exact List.Mem.head _ | refine List.Mem.tail _ ?_)) (by rfl)) ?_) | (refine RS.q rfl (QO.loadA ty26 (by rfl) (by repeat (first | exact List.Mem.head _ | refine List.Mem.tail _ ?_)) (by rfl) (by rfl)) ?_) | (refine RS.q rfl (QO.loadOA ty26 (by rfl) (by assumption) (by rfl)) ?_)
  refine RS.call rfl (by rfl) ok32 (by rfl) (fun w ho => small_ x y wi he A n c xs _ hn (hA.own ho) hlx) ?_
  intro v25 H25 h25
  obtain ⟨gf, X, Y, a, b, ys, rfl, rfl, hys, ha, hb, hX, hY, hab⟩ := h25
  have hr0 := regErr_small ha hb hX hY
  have hfr := fr0 hr0 hys
  have hym : ys.length ≤ maxLen := by unfold maxLen; omega
  first | refine RS.storeB ty26 (by rfl) (by rfl) (by rfl) (by rfl) (by rfl) (by repeat (first | exact Upd.head | apply Upd.tail)) (by rfl) ?_ | refine RS.storeP ty26 (by rfl) (by rfl) (by rfl) (by rfl) (by rfl) (by repeat (first | exact Upd.head | apply Upd.tail)) (by rfl) ?_
  refine RS.nil ?_
  refine thenC_n ?_
  refine CS.seq ?_
  refine CS.region ?_
  first | (refine RS.q rfl (QO.loadB ty26 (by rfl) (by repeat (first | exact List.Mem.head _ | refine List.Mem.tail _ ?_)) (by rfl)) ?_) | (refine RS.q rfl (QO.loadA ty26 (by rfl) (by repeat (first | exact List.Mem.head _ | refine List.Mem.tail _ ?_)) (by rfl) (by rfl)) ?_) | (refine RS.q rfl (QO.loadOA ty26 (by rfl) (by assumption) (by rfl)) ?_)
  refine RS.q rfl (QO.move) ?_
  first | (refine RS.q rfl (QO.loadB ty75 (by rfl) (by repeat (first | exact List.Mem.head _ | refine List.Mem.tail _ ?_)) (by rfl)) ?_) | (refine RS.q rfl (QO.loadA ty75 (by rfl) (by repeat (first | exact List.Mem.head _ | refine List.Mem.tail _ ?_)) (by rfl) (by rfl)) ?_) | (refine RS.q rfl (QO.loadOA ty75 (by rfl) (by assumption) (by rfl)) ?_)
  refine RS.call rfl (by rfl) ok33 (by rfl) (fun w ho => histOk X Y a b (some ⟨gf, 0, none⟩) ys.length ys.length ys ch _ rfl (FS.blk' ho (by repeat (first | exact List.Mem.head _ | refine List.Mem.tail _ ?_))) hfr hys (Nat.le_refl _) hym (by omega) (by omega) lo hi m (fBf ys ch lo hi m) h0 h4 hok (fun _ => rfl)) ?_
  rintro _ _ ⟨ga, rfl, rfl⟩
  refine RS.q rfl (QO.move) ?_
  refine RS.q rfl (QO.extract (by rfl) (by rfl)) ?_
  refine RS.q rfl (QO.extract (by rfl) (by rfl)) ?_
  refine RS.alloc rfl ty77 ?_
  intro g9
  first | refine RS.storeB ty77 (by rfl) (by rfl) (by rfl) (by rfl) (by rfl) (by repeat (first | exact Upd.head | apply Upd.tail)) (by rfl) ?_ | refine RS.storeP ty77 (by rfl) (by rfl) (by rfl) (by rfl) (by rfl) (by repeat (first | exact Upd.head | apply Upd.tail)) (by rfl) ?_
  refine RS.q rfl (QO.assign) ?_
  refine RS.nil ?_
  refine thenC_n ?_
  refine CS.seq ?_
  refine CS.seq ?_
  refine CS.region ?_
  refine RS.q rfl (QO.move) ?_
  refine RS.qv rfl (QO.neq (by rfl) (by rfl)) (congrArg Value.bool (show ((0 : Int) != 0) = false from by decide)) ?_
  refine RS.nil ?_
  refine thenC_n ?_
  refine CS.condF (by rfl) rfl ?_
  refine CS.skip ?_
  refine thenC_n ?_
  refine CS.seq ?_
  refine CS.region ?_
  refine RS.q rfl (QO.fieldAddr fo26_0 (by rfl)) ?_
  first | (refine RS.q rfl (QO.loadB ty23 (by rfl) (by repeat (first | exact List.Mem.head _ | refine List.Mem.tail _ ?_)) (by rfl)) ?_) | (refine RS.q rfl (QO.loadA ty23 (by rfl) (by repeat (first | exact List.Mem.head _ | refine List.Mem.tail _ ?_)) (by rfl) (by rfl)) ?_) | (refine RS.q rfl (QO.loadOA ty23 (by rfl) (by assumption) (by rfl)) ?_)
  refine RS.q rfl (QO.move) ?_
  refine RS.call rfl (by rfl) ok34 (by rfl) (fun w ho => tiles X Y (a : Int) (b : Int) side _) ?_
  rintro _ Ht ⟨vs, rfl, hrow⟩
  refine RS.perm List.perm_append_comm ?_
  refine RS.q rfl (QO.move) ?_
  refine RS.q rfl (QO.extract (by rfl) (by rfl)) ?_
  refine RS.q rfl (QO.extract (by rfl) (by rfl)) ?_
  refine RS.q rfl (QO.assign) ?_
  refine RS.q rfl (QO.assign) ?_
  refine RS.nil ?_
  refine thenC_n ?_
  refine CS.seq ?_
  refine CS.seq ?_
  by_cases hsp8 : tErr X Y (a : Int) (b : Int) side = 0
  · refine CS.region ?_
    refine RS.q rfl (QO.move) ?_
    refine RS.qv rfl (QO.neq (by rfl) (by rfl)) (congrArg Value.bool (show (tErr X Y (a : Int) (b : Int) side != 0) = false from by rw [hsp8]; rfl)) ?_
    refine RS.nil ?_
    refine thenC_n ?_
    refine CS.condF (by rfl) rfl ?_
    refine CS.skip ?_
    refine thenC_n ?_
    refine CS.seq ?_
    refine CS.region ?_
    have htl := tL_ok hsp8
    obtain ⟨s, hs, htl⟩ := htl
    rw [htl] at hrow
    have hlp := rows_pos (X := X) (Y := Y) hs ha.1 hb.1
    have htok : ∀ t ∈ rowsL X Y a b s (cntI Y b s), TileOk X Y a b t := fun t ht => tiles_ok hs ha.1 hb.1 ht
    have hall : ∀ x, sumR (hT ys X Y a b ch lo hi m x) (rowsL X Y a b s (cntI Y b s)) = hB (fBf ys ch lo hi m) (a * b) x := fun x => sum_all hs ha.1 hb.1 h0 h4
    obtain ⟨HT, hHT⟩ : ∃ f, hT ys X Y a b ch lo hi m = f := ⟨_, rfl⟩
    have hTb : ∀ x t, t ∈ rowsL X Y a b s (cntI Y b s) → HT x t ≤ 64 := fun x t ht => by rw [← hHT]; exact hT_le (htok t ht) ha.2 hb.2
    rw [hHT] at hall
    have hll := tilesL_len (X := X) (Y := Y) (w := a) (h := b) (s := s) (j := cntI Y b s) (i := 0) hs (by omega) (by omega) (Nat.le_refl _) (Nat.zero_le _)
    rw [tilesL_zero] at hll
    obtain ⟨l, hl⟩ : ∃ l, rowsL X Y a b s (cntI Y b s) = l := ⟨_, rfl⟩
    rw [hl] at hrow hlp htok hall hTb hll
    have hSb : ∀ x k, sumR (HT x) (l.take k) ≤ 64 := fun x k => Nat.le_trans sumR_take_le (by rw [hall]; exact Nat.le_trans (hB_le _ _ _) hab)
    have hro := hrow.some hlp
    obtain ⟨gt, ct2, jt, hv, hH, hct, hctm, _⟩ := hro
    subst hv hH
    refine RS.q rfl (QO.fieldAddr fo75_2 (by rfl)) ?_
    first | (refine RS.q rfl (QO.load ty3 (by rfl) (by repeat (first | exact List.Mem.head _ | refine List.Mem.tail _ ?_)) (by rfl)) ?_) | (refine RS.q rfl (QO.loadO ty3 (by rfl) (by assumption)) ?_) | (refine RS.q rfl (QO.load ty3 (by rfl) (by repeat (first | exact List.Mem.head _ | refine List.Mem.tail _ ?_)) (by assumption)) ?_)
    refine RS.make rfl Try.underlying39 ty3 (by rfl) (by rfl) (by omega) (by omega) (by omega) (by omega) ?_
    intro g46
    refine RS.qv rfl (QO.build ty77 pl77 (by rfl)) (show _ = Value.agg #[.slice (some ⟨g46, 0, none⟩) m m, iv 0, iv 0, iv 0] from rfl) ?_
    refine RS.alloc rfl ty77 ?_
    intro g12
    first | refine RS.storeB ty77 (by rfl) (by rfl) (by rfl) (by rfl) (by rfl) (by repeat (first | exact Upd.head | apply Upd.tail)) (by rfl) ?_ | refine RS.storeP ty77 (by rfl) (by rfl) (by rfl) (by rfl) (by rfl) (by repeat (first | exact Upd.head | apply Upd.tail)) (by rfl) ?_
    refine RS.nil ?_
    refine thenC_n ?_
    refine CS.seq ?_
    refine CS.seq ?_
    refine CS.region ?_
    refine RS.q rfl (QO.move) ?_
    refine RS.q rfl (QO.lenS Try.underlying80 (by rfl)) ?_
    refine RS.q rfl (QO.move) ?_
    refine RS.nil ?_
    refine thenC_n ?_
    refine CS.block ?_
    refine CS.loop (X := Nat) (8 :: 14 :: 15 :: 16 :: 17 :: 18 :: 19 :: 50 :: 51 :: 52 :: 53 :: 54 :: 55 :: 56 :: 57 :: 58 :: 59 :: 60 :: 61 :: 62 :: 63 :: 64 :: 65 :: 66 :: 67 :: 68 :: 69 :: 70 :: 71 :: 72 :: 73 :: 74 :: 75 :: 76 :: 77 :: 78 :: 79 :: 80 :: 81 :: 82 :: 83 :: 84 :: 85 :: 86 :: 87 :: 88 :: 89 :: 90 :: 91 :: 92 :: 93 :: 94 :: 95 :: 96 :: 97 :: 98 :: 99 :: 100 :: 101 :: 102 :: 103 :: 104 :: 105 :: 106 :: 107 :: 108 :: 109 :: 110 :: 111 :: 112 :: 113 :: 114 :: []) (fun k => [(50, iv (k : Int))]) (fun k => [⟨g12, 77, [.slice (some ⟨g46, 0, none⟩) m m, iv ((sumR (HT (-1)) (l.take k) : Nat) : Int), iv ((sumR (HT (m : Int)) (l.take k) : Nat) : Int), iv ((sumR (HT (-2)) (l.take k) : Nat) : Int)]⟩, ⟨g46, 3, rowN (fun j : Nat => sumR (HT (j : Int)) (l.take k)) m⟩, ⟨gt, 23, rgs l ++ jt⟩, ⟨g9, 77, [.slice (some ⟨ga, 0, none⟩) m m, iv ((hB (fBf ys ch lo hi m) (a * b) (-1) : Nat) : Int), iv ((hB (fBf ys ch lo hi m) (a * b) (m : Int) : Nat) : Int), iv ((hB (fBf ys ch lo hi m) (a * b) (-2) : Nat) : Int)]⟩, ⟨ga, 3, rowB (fBf ys ch lo hi m) (a * b) m⟩, ⟨gf, 29, ys.map flt⟩, ⟨g4, 26, [iv X, iv Y, iv (a : Int), iv (b : Int), .slice (some ⟨gf, 0, none⟩) ys.length ys.length]⟩, ⟨g7, 75, [flt lo, flt hi, iv (m : Int)]⟩]) (fun k => k ≤ l.length) (fun k => l.length - k) 0 (Nat.zero_le _) ?_ ?_ ?_
    · exact (by repeat (first | exact kn_nil | refine kn_cons (by rfl) ?_))
    · exact (by rw [rowN_zero (f := fun j : Nat => HT (j : Int))]; exact (by repeat (first | exact List.Sublist.refl _ | exact List.nil_sublist _ | refine List.Sublist.cons_cons _ ?_ | refine List.Sublist.cons _ ?_ | exact Sbp.refl | exact Sbp.nil | refine Sbp.cons (by repeat (first | exact Rem.head | apply Rem.tail)) ?_ | exact Sbp.app | refine Sbp.skip ?_ | exact List.sublist_append_left _ _ | exact List.sublist_append_right _ _)))
    · intro k gj12 hz
      refine CS.seq ?_
      refine CS.region ?_
      refine RS.q rfl (QO.lss (by rfl) (by rfl)) ?_
      refine RS.nil ?_
      refine thenC_n ?_
      refine CS.seq ?_
      refine CS.cond (by rfl) (fun hb0 => ?_) (fun hb0 => ?_)
      · have hb0p := of_decide_eq_true hb0
        refine CS.skip ?_
        refine thenC_n ?_
        refine CS.seq ?_
        refine CS.block ?_
        refine CS.seq ?_
        refine CS.region ?_
        have hkl : k < l.length := by omega
        obtain ⟨t, ht⟩ : ∃ t, l[k] = t := ⟨_, rfl⟩
        have hrt := rgs_take (l := l) (junk := jt) hkl
        rw [ht] at hrt
        have htm : t ∈ l := ht ▸ List.getElem_mem hkl
        have hto := htok t htm
        have hsum : ∀ x, sumR (HT x) (l.take (k + 1)) = sumR (HT x) (l.take k) + HT x t := fun x => by rw [sumR_take _ hkl, ht]
        refine RS.qv rfl (QO.idx Try.underlying80 ty23 (by rfl) (by rfl) (by omega) (by omega)) (congrArg (fun o => Value.pointer (some ⟨gt, o, none⟩)) (show 0 + (k : Int).toNat * 4 = k * 4 by rw [Int.toNat_natCast]; omega)) ?_
        refine RS.q rfl (QO.loadA ty23 (by rfl) (by repeat (first | exact List.Mem.head _ | refine List.Mem.tail _ ?_)) hrt (by rfl)) ?_
        refine RS.alloc rfl ty23 ?_
        intro g14
        first | refine RS.storeB ty23 (by rfl) (by rfl) (by rfl) (by rfl) (by rfl) (by repeat (first | exact Upd.head | apply Upd.tail)) (by rfl) ?_ | refine RS.storeP ty23 (by rfl) (by rfl) (by rfl) (by rfl) (by rfl) (by repeat (first | exact Upd.head | apply Upd.tail)) (by rfl) ?_
        refine RS.nil ?_
        refine thenC_n ?_
        refine CS.seq ?_
        refine CS.region ?_
        first | (refine RS.q rfl (QO.loadB ty26 (by rfl) (by repeat (first | exact List.Mem.head _ | refine List.Mem.tail _ ?_)) (by rfl)) ?_) | (refine RS.q rfl (QO.loadA ty26 (by rfl) (by repeat (first | exact List.Mem.head _ | refine List.Mem.tail _ ?_)) (by rfl) (by rfl)) ?_) | (refine RS.q rfl (QO.loadOA ty26 (by rfl) (by assumption) (by rfl)) ?_)
        first | (refine RS.q rfl (QO.loadB ty23 (by rfl) (by repeat (first | exact List.Mem.head _ | refine List.Mem.tail _ ?_)) (by rfl)) ?_) | (refine RS.q rfl (QO.loadA ty23 (by rfl) (by repeat (first | exact List.Mem.head _ | refine List.Mem.tail _ ?_)) (by rfl) (by rfl)) ?_) | (refine RS.q rfl (QO.loadOA ty23 (by rfl) (by assumption) (by rfl)) ?_)
        refine RS.call rfl (by rfl) ok35 (by rfl) (fun w ho => cutT X Y a b (some ⟨gf, 0, none⟩) ys.length ys.length ys t _ rfl (FS.blk' ho (by repeat (first | exact List.Mem.head _ | refine List.Mem.tail _ ?_))) hys (Nat.le_refl _) hym ha hb hX hY hfr hto) ?_
        rintro _ _ ⟨gc, cc, jc, rfl, rfl, hcl, hccm⟩
        refine RS.q rfl (QO.move) ?_
        refine RS.q rfl (QO.extract (by rfl) (by rfl)) ?_
        refine RS.q rfl (QO.extract (by rfl) (by rfl)) ?_
        refine RS.alloc rfl ty26 ?_
        intro g15
        first | refine RS.storeB ty26 (by rfl) (by rfl) (by rfl) (by rfl) (by rfl) (by repeat (first | exact Upd.head | apply Upd.tail)) (by rfl) ?_ | refine RS.storeP ty26 (by rfl) (by rfl) (by rfl) (by rfl) (by rfl) (by repeat (first | exact Upd.head | apply Upd.tail)) (by rfl) ?_
        refine RS.q rfl (QO.assign) ?_
        refine RS.nil ?_
        refine thenC_n ?_
        refine CS.seq ?_
        refine CS.seq ?_
        refine CS.region ?_
        refine RS.q rfl (QO.move) ?_
        refine RS.qv rfl (QO.neq (by rfl) (by rfl)) (congrArg Value.bool (show ((0 : Int) != 0) = false from by decide)) ?_
        refine RS.nil ?_
        refine thenC_n ?_
        refine CS.condF (by rfl) rfl ?_
        refine CS.skip ?_
        refine thenC_n ?_
        refine CS.seq ?_
        refine CS.region ?_
        first | (refine RS.q rfl (QO.loadB ty26 (by rfl) (by repeat (first | exact List.Mem.head _ | refine List.Mem.tail _ ?_)) (by rfl)) ?_) | (refine RS.q rfl (QO.loadA ty26 (by rfl) (by repeat (first | exact List.Mem.head _ | refine List.Mem.tail _ ?_)) (by rfl) (by rfl)) ?_) | (refine RS.q rfl (QO.loadOA ty26 (by rfl) (by assumption) (by rfl)) ?_)
        refine RS.q rfl (QO.move) ?_
        first | (refine RS.q rfl (QO.loadB ty75 (by rfl) (by repeat (first | exact List.Mem.head _ | refine List.Mem.tail _ ?_)) (by rfl)) ?_) | (refine RS.q rfl (QO.loadA ty75 (by rfl) (by repeat (first | exact List.Mem.head _ | refine List.Mem.tail _ ?_)) (by rfl) (by rfl)) ?_) | (refine RS.q rfl (QO.loadOA ty75 (by rfl) (by assumption) (by rfl)) ?_)
        refine RS.call rfl (by rfl) ok33 (by rfl) (fun w ho => histT X Y a b ys ch lo hi m t gc cc HT _ (FS.blk (junk := jc) ho (by repeat (first | exact List.Mem.head _ | refine List.Mem.tail _ ?_))) hcl hccm ha hb hX hY hto h0 h4 hok hHT) ?_
        rintro _ _ ⟨gh, rfl, rfl⟩
        refine RS.q rfl (QO.move) ?_
        refine RS.q rfl (QO.extract (by rfl) (by rfl)) ?_
        refine RS.q rfl (QO.extract (by rfl) (by rfl)) ?_
        refine RS.alloc rfl ty77 ?_
        intro g17
        first | refine RS.storeB ty77 (by rfl) (by rfl) (by rfl) (by rfl) (by rfl) (by repeat (first | exact Upd.head | apply Upd.tail)) (by rfl) ?_ | refine RS.storeP ty77 (by rfl) (by rfl) (by rfl) (by rfl) (by rfl) (by repeat (first | exact Upd.head | apply Upd.tail)) (by rfl) ?_
        refine RS.q rfl (QO.assign) ?_
        refine RS.nil ?_
        refine thenC_n ?_
        refine CS.seq ?_
        refine CS.seq ?_
        refine CS.region ?_
        refine RS.q rfl (QO.move) ?_
        refine RS.qv rfl (QO.neq (by rfl) (by rfl)) (congrArg Value.bool (show ((0 : Int) != 0) = false from by decide)) ?_
        refine RS.q rfl (QO.move) ?_
        refine RS.on (dj := 71) rfl (congrArg Value.bool rfl) ?_
        refine RS.q rfl (QO.fieldAddr fo77_0 (by rfl)) ?_
        refine RS.on (dj := 71) rfl (congrArg Value.bool rfl) ?_
        first | (refine RS.q rfl (QO.load ty39 (by rfl) (by repeat (first | exact List.Mem.head _ | refine List.Mem.tail _ ?_)) (by rfl)) ?_) | (refine RS.q rfl (QO.loadO ty39 (by rfl) (by assumption)) ?_) | (refine RS.q rfl (QO.load ty39 (by rfl) (by repeat (first | exact List.Mem.head _ | refine List.Mem.tail _ ?_)) (by assumption)) ?_)
        refine RS.on (dj := 71) rfl (congrArg Value.bool rfl) ?_
        refine RS.q rfl (QO.lenS Try.underlying39 (by rfl)) ?_
        refine RS.on (dj := 71) rfl (congrArg Value.bool rfl) ?_
        refine RS.q rfl (QO.fieldAddr fo75_2 (by rfl)) ?_
        refine RS.on (dj := 71) rfl (congrArg Value.bool rfl) ?_
        first | (refine RS.q rfl (QO.load ty3 (by rfl) (by repeat (first | exact List.Mem.head _ | refine List.Mem.tail _ ?_)) (by rfl)) ?_) | (refine RS.q rfl (QO.loadO ty3 (by rfl) (by assumption)) ?_) | (refine RS.q rfl (QO.load ty3 (by rfl) (by repeat (first | exact List.Mem.head _ | refine List.Mem.tail _ ?_)) (by assumption)) ?_)
        refine RS.on (dj := 71) rfl (congrArg Value.bool rfl) ?_
        refine RS.qv rfl (QO.neq (by rfl) (by rfl)) (congrArg Value.bool (bne_self_eq_false _)) ?_
        refine RS.q rfl (QO.pickF (by rfl) rfl (by rfl)) ?_
        refine RS.nil ?_
        refine thenC_n ?_
        refine CS.condF (by rfl) rfl ?_
        refine CS.skip ?_
        refine thenC_n ?_
        refine CS.seq ?_
        refine CS.seq ?_
        refine CS.region ?_
        refine RS.q rfl (QO.fieldAddr fo77_0 (by rfl)) ?_
        first | (refine RS.q rfl (QO.load ty39 (by rfl) (by repeat (first | exact List.Mem.head _ | refine List.Mem.tail _ ?_)) (by rfl)) ?_) | (refine RS.q rfl (QO.loadO ty39 (by rfl) (by assumption)) ?_) | (refine RS.q rfl (QO.load ty39 (by rfl) (by repeat (first | exact List.Mem.head _ | refine List.Mem.tail _ ?_)) (by assumption)) ?_)
        refine RS.q rfl (QO.lenS Try.underlying39 (by rfl)) ?_
        refine RS.q rfl (QO.move) ?_
        refine RS.nil ?_
        refine thenC_n ?_
        refine CS.block ?_
        refine CS.loop (X := Nat) (18 :: 19 :: 82 :: 83 :: 84 :: 85 :: 86 :: 87 :: 88 :: 89 :: 90 :: 91 :: 92 :: 93 :: 94 :: 95 :: []) (fun q => [(82, iv (q : Int))]) (fun q => [⟨g17, 77, [.slice (some ⟨gh, 0, none⟩) m m, iv ((HT (-1) t : Nat) : Int), iv ((HT (m : Int) t : Nat) : Int), iv ((HT (-2) t : Nat) : Int)]⟩, ⟨gh, 3, rowN (fun j : Nat => HT (j : Int) t) m⟩, ⟨g12, 77, [.slice (some ⟨g46, 0, none⟩) m m, iv ((sumR (HT (-1)) (l.take k) : Nat) : Int), iv ((sumR (HT (m : Int)) (l.take k) : Nat) : Int), iv ((sumR (HT (-2)) (l.take k) : Nat) : Int)]⟩, ⟨g46, 3, rowN (addU (fun j : Nat => sumR (HT (j : Int)) (l.take k)) (fun j : Nat => HT (j : Int) t) q) m⟩, ⟨gt, 23, rgs l ++ jt⟩, ⟨g9, 77, [.slice (some ⟨ga, 0, none⟩) m m, iv ((hB (fBf ys ch lo hi m) (a * b) (-1) : Nat) : Int), iv ((hB (fBf ys ch lo hi m) (a * b) (m : Int) : Nat) : Int), iv ((hB (fBf ys ch lo hi m) (a * b) (-2) : Nat) : Int)]⟩, ⟨ga, 3, rowB (fBf ys ch lo hi m) (a * b) m⟩, ⟨gf, 29, ys.map flt⟩, ⟨g4, 26, [iv X, iv Y, iv (a : Int), iv (b : Int), .slice (some ⟨gf, 0, none⟩) ys.length ys.length]⟩, ⟨g7, 75, [flt lo, flt hi, iv (m : Int)]⟩]) (fun q => q ≤ m) (fun q => m - q) 0 (Nat.zero_le _) ?_ ?_ ?_
        · exact (by repeat (first | exact kn_nil | refine kn_cons (by rfl) ?_))
        · exact (by rw [← addU_0]; exact (by repeat (first | exact List.Sublist.refl _ | exact List.nil_sublist _ | refine List.Sublist.cons_cons _ ?_ | refine List.Sublist.cons _ ?_ | exact Sbp.refl | exact Sbp.nil | refine Sbp.cons (by repeat (first | exact Rem.head | apply Rem.tail)) ?_ | exact Sbp.app | refine Sbp.skip ?_ | exact List.sublist_append_left _ _ | exact List.sublist_append_right _ _)))
        · intro q gj21 hz
          refine CS.seq ?_
          refine CS.region ?_
          refine RS.q rfl (QO.lss (by rfl) (by rfl)) ?_
          refine RS.nil ?_
          refine thenC_n ?_
          refine CS.seq ?_
          refine CS.cond (by rfl) (fun hb1 => ?_) (fun hb1 => ?_)
          · have hb1p := of_decide_eq_true hb1
            refine CS.skip ?_
            refine thenC_n ?_
            refine CS.seq ?_
            refine CS.block ?_
            refine CS.seq ?_
            refine CS.region ?_
            refine RS.q rfl (QO.move) ?_
            first | (refine RS.q rfl (QO.idx0 Try.underlying39 ty3 (by rfl) (by rfl) (by rfl) (by omega)) ?_) | (refine RS.q rfl (QO.idxn Try.underlying39 ty3 (by rfl) (by rfl) (by rfl) (by omega)) ?_) | (refine RS.q rfl (QO.idx1 Try.underlying39 ty3 (by rfl) (by rfl) (by omega) (by omega)) ?_)
            refine RS.q rfl (QO.load ty3 (by rfl) (by repeat (first | exact List.Mem.head _ | refine List.Mem.tail _ ?_)) (rowN_at (f := (fun j : Nat => HT (j : Int) t)) (j := q) (by omega))) ?_
            refine RS.q rfl (QO.assign) ?_
            refine RS.q rfl (QO.assign) ?_
            refine RS.nil ?_
            refine thenC_n ?_
            refine CS.region ?_
            have b1 := hSb (q : Int) k
            have b2 := hTb (q : Int) t htm
            refine RS.q rfl (QO.fieldAddr fo77_0 (by rfl)) ?_
            first | (refine RS.q rfl (QO.load ty39 (by rfl) (by repeat (first | exact List.Mem.head _ | refine List.Mem.tail _ ?_)) (by rfl)) ?_) | (refine RS.q rfl (QO.loadO ty39 (by rfl) (by assumption)) ?_) | (refine RS.q rfl (QO.load ty39 (by rfl) (by repeat (first | exact List.Mem.head _ | refine List.Mem.tail _ ?_)) (by assumption)) ?_)
            refine RS.q rfl (QO.move) ?_
            first | (refine RS.q rfl (QO.idx0 Try.underlying39 ty3 (by rfl) (by rfl) (by rfl) (by omega)) ?_) | (refine RS.q rfl (QO.idxn Try.underlying39 ty3 (by rfl) (by rfl) (by rfl) (by omega)) ?_) | (refine RS.q rfl (QO.idx1 Try.underlying39 ty3 (by rfl) (by rfl) (by omega) (by omega)) ?_)
            refine RS.qv rfl (QO.load ty3 (by rfl) (by repeat (first | exact List.Mem.head _ | refine List.Mem.tail _ ?_)) (rowN_at (f := addU (fun j : Nat => sumR (HT (j : Int)) (l.take k)) (fun j : Nat => HT (j : Int) t) q) (j := q) (by omega))) (congrArg (fun z : Nat => iv (z : Int)) (addU_at (fun j : Nat => sumR (HT (j : Int)) (l.take k)) (fun j : Nat => HT (j : Int) t) q)) ?_
            refine RS.q rfl (QO.move) ?_
            first | (refine RS.q rfl (QO.add (by rfl) (by rfl) (by omega) (by omega)) ?_) | (refine RS.q rfl (QO.ibin (by rfl) (by rfl) trivial) ?_)
            first | (refine RS.q rfl (QO.idx0 Try.underlying39 ty3 (by rfl) (by rfl) (by rfl) (by omega)) ?_) | (refine RS.q rfl (QO.idxn Try.underlying39 ty3 (by rfl) (by rfl) (by rfl) (by omega)) ?_) | (refine RS.q rfl (QO.idx1 Try.underlying39 ty3 (by rfl) (by rfl) (by omega) (by omega)) ?_)
            refine RS.store1e ty3 rfl (by rfl) (by rfl) (by rfl) (addU_set (f := (fun j : Nat => sumR (HT (j : Int)) (l.take k))) (g := (fun j : Nat => HT (j : Int) t)) (m := m) (q := q) (by omega)) (by repeat (first | exact Upd.head | apply Upd.tail)) (by rw [rowN_len]; omega) ?_
            refine RS.nil ?_
            refine blockC_n ?_
            refine thenC_n ?_
            refine CS.region ?_
            first | (refine RS.q rfl (QO.add (by rfl) (by rfl) (by omega) (by omega)) ?_) | (refine RS.q rfl (QO.ibin (by rfl) (by rfl) trivial) ?_)
            refine RS.q rfl (QO.move) ?_
            refine RS.nil ?_
            refine loopQ_n (by intro t ht; repeat (first | with_reducible exact rfl | exact frame_puts ht (frame_mix ht) _ rfl | (refine frame_put rfl ht ?_) | (refine frame_puts ht ?_ _ rfl) | exact frame_mix ht | (refine frame_mix2 rfl ht ?_) | exact rfl)) ?_
            exact ⟨q + 1, by omega, by omega, (by repeat (first | exact kn_nil | refine kn_cons (by rfl) ?_)), (by repeat (first | exact List.Sublist.refl _ | exact List.nil_sublist _ | refine List.Sublist.cons_cons _ ?_ | refine List.Sublist.cons _ ?_ | exact Sbp.refl | exact Sbp.nil | refine Sbp.cons (by repeat (first | exact Rem.head | apply Rem.tail)) ?_ | exact Sbp.app | refine Sbp.skip ?_ | exact List.sublist_append_left _ _ | exact List.sublist_append_right _ _))⟩
          · have hb1p := of_decide_eq_false hb1
            refine CS.exit ?_
            refine thenC_x ?_
            refine loopQ_x ?_
            refine blockC_x ?_
            refine thenC_n ?_
            refine CS.draw2 [16, 18, 20] (HT := [⟨g17, 77, [.slice (some ⟨gh, 0, none⟩) m m, iv ((HT (-1) t : Nat) : Int), iv ((HT (m : Int) t : Nat) : Int), iv ((HT (-2) t : Nat) : Int)]⟩]) (by repeat (first | exact List.Sublist.refl _ | exact List.nil_sublist _ | refine List.Sublist.cons_cons _ ?_ | refine List.Sublist.cons _ ?_ | exact Sbp.refl | exact Sbp.nil | refine Sbp.cons (by repeat (first | exact Rem.head | apply Rem.tail)) ?_ | exact Sbp.app | refine Sbp.skip ?_ | exact List.sublist_append_left _ _ | exact List.sublist_append_right _ _)) rfl (by kernel_rfl) ?_
            have b1 := hSb (-1) k
            have b2 := hTb (-1) t htm
            have b3 := hSb (m : Int) k
            have b4 := hTb (m : Int) t htm
            have b5 := hSb (-2) k
            have b6 := hTb (-2) t htm
            refine RT2.take1 (i := 0) rfl (by kernel_rfl) rfl (QO.fieldAddr fo77_1 (by rfl)) ?_
            first | (refine RT2.take1 (i := 1) rfl (by kernel_rfl) rfl (QO.load ty3 (by rfl) (by repeat (first | exact List.Mem.head _ | refine List.Mem.tail _ ?_)) (by rfl)) ?_) | (refine RT2.take1 (i := 1) rfl (by kernel_rfl) rfl (QO.loadO ty3 (by rfl) (by assumption)) ?_) | (refine RT2.take1 (i := 1) rfl (by kernel_rfl) rfl (QO.load ty3 (by rfl) (by repeat (first | exact List.Mem.head _ | refine List.Mem.tail _ ?_)) (by assumption)) ?_)
            refine RT2.take1 (i := 2) rfl (by kernel_rfl) rfl (QO.fieldAddr fo77_1 (by rfl)) ?_
            first | (refine RT2.take1 (i := 3) rfl (by kernel_rfl) rfl (QO.load ty3 (by rfl) (by repeat (first | exact List.Mem.head _ | refine List.Mem.tail _ ?_)) (by rfl)) ?_) | (refine RT2.take1 (i := 3) rfl (by kernel_rfl) rfl (QO.loadO ty3 (by rfl) (by assumption)) ?_) | (refine RT2.take1 (i := 3) rfl (by kernel_rfl) rfl (QO.load ty3 (by rfl) (by repeat (first | exact List.Mem.head _ | refine List.Mem.tail _ ?_)) (by assumption)) ?_)
            first | (refine RT2.take1 (i := 4) rfl (by kernel_rfl) rfl (QO.add (by rfl) (by rfl) (by omega) (by omega)) ?_) | (refine RT2.take1 (i := 4) rfl (by kernel_rfl) rfl (QO.ibin (by rfl) (by rfl) trivial) ?_)
            refine RT2.take1 (i := 5) rfl (by kernel_rfl) rfl (QO.fieldAddr fo77_2 (by rfl)) ?_
            first | (refine RT2.take1 (i := 6) rfl (by kernel_rfl) rfl (QO.load ty3 (by rfl) (by repeat (first | exact List.Mem.head _ | refine List.Mem.tail _ ?_)) (by rfl)) ?_) | (refine RT2.take1 (i := 6) rfl (by kernel_rfl) rfl (QO.loadO ty3 (by rfl) (by assumption)) ?_) | (refine RT2.take1 (i := 6) rfl (by kernel_rfl) rfl (QO.load ty3 (by rfl) (by repeat (first | exact List.Mem.head _ | refine List.Mem.tail _ ?_)) (by assumption)) ?_)
            refine RT2.take2 (i := 7) rfl (by kernel_rfl) rfl (QO.fieldAddr fo77_2 (by rfl)) ?_
            first | (refine RT2.take2 (i := 8) rfl (by kernel_rfl) rfl (QO.load ty3 (by rfl) (by repeat (first | exact List.Mem.head _ | refine List.Mem.tail _ ?_)) (by rfl)) ?_) | (refine RT2.take2 (i := 8) rfl (by kernel_rfl) rfl (QO.loadO ty3 (by rfl) (by assumption)) ?_) | (refine RT2.take2 (i := 8) rfl (by kernel_rfl) rfl (QO.load ty3 (by rfl) (by repeat (first | exact List.Mem.head _ | refine List.Mem.tail _ ?_)) (by assumption)) ?_)
            first | (refine RT2.take2 (i := 9) rfl (by kernel_rfl) rfl (QO.add (by rfl) (by rfl) (by omega) (by omega)) ?_) | (refine RT2.take2 (i := 9) rfl (by kernel_rfl) rfl (QO.ibin (by rfl) (by rfl) trivial) ?_)
            refine RT2.take1 (i := 10) rfl (by kernel_rfl) rfl (QO.fieldAddr fo77_3 (by rfl)) ?_
            first | (refine RT2.take1 (i := 11) rfl (by kernel_rfl) rfl (QO.load ty3 (by rfl) (by repeat (first | exact List.Mem.head _ | refine List.Mem.tail _ ?_)) (by rfl)) ?_) | (refine RT2.take1 (i := 11) rfl (by kernel_rfl) rfl (QO.loadO ty3 (by rfl) (by assumption)) ?_) | (refine RT2.take1 (i := 11) rfl (by kernel_rfl) rfl (QO.load ty3 (by rfl) (by repeat (first | exact List.Mem.head _ | refine List.Mem.tail _ ?_)) (by assumption)) ?_)
            refine RT2.take2 (i := 12) rfl (by kernel_rfl) rfl (QO.fieldAddr fo77_3 (by rfl)) ?_
            first | (refine RT2.take2 (i := 13) rfl (by kernel_rfl) rfl (QO.load ty3 (by rfl) (by repeat (first | exact List.Mem.head _ | refine List.Mem.tail _ ?_)) (by rfl)) ?_) | (refine RT2.take2 (i := 13) rfl (by kernel_rfl) rfl (QO.loadO ty3 (by rfl) (by assumption)) ?_) | (refine RT2.take2 (i := 13) rfl (by kernel_rfl) rfl (QO.load ty3 (by rfl) (by repeat (first | exact List.Mem.head _ | refine List.Mem.tail _ ?_)) (by assumption)) ?_)
            first | (refine RT2.take2 (i := 14) rfl (by kernel_rfl) rfl (QO.add (by rfl) (by rfl) (by omega) (by omega)) ?_) | (refine RT2.take2 (i := 14) rfl (by kernel_rfl) rfl (QO.ibin (by rfl) (by rfl) trivial) ?_)
            refine RT2.take1 (i := 15) rfl (by kernel_rfl) rfl (QO.fieldAddr fo77_1 (by rfl)) ?_
            refine RT2.oneX (i := 16) (by kernel_rfl) rfl (by kernel_rfl) ?_
            refine RS.store1 ty3 rfl (by rfl) (by rfl) (by rfl) (by repeat (first | exact Upd.head | apply Upd.tail)) (by first | (simp; done) | (simp; omega) | omega) ?_
            refine RS.nil ⟨(by repeat (first | exact List.Sublist.refl _ | exact List.nil_sublist _ | refine List.Sublist.cons_cons _ ?_ | refine List.Sublist.cons _ ?_ | exact Sbp.refl | exact Sbp.nil | refine Sbp.cons (by repeat (first | exact Rem.head | apply Rem.tail)) ?_ | exact Sbp.app | refine Sbp.skip ?_ | exact List.sublist_append_left _ _ | exact List.sublist_append_right _ _)), ?_⟩
            refine RT2.take2 (i := 17) rfl (by kernel_rfl) rfl (QO.fieldAddr fo77_2 (by rfl)) ?_
            refine RT2.oneX (i := 18) (by kernel_rfl) rfl (by kernel_rfl) ?_
            refine RS.store1 ty3 rfl (by rfl) (by rfl) (by rfl) (by repeat (first | exact Upd.head | apply Upd.tail)) (by first | (simp; done) | (simp; omega) | omega) ?_
            refine RS.nil ⟨(by repeat (first | exact List.Sublist.refl _ | exact List.nil_sublist _ | refine List.Sublist.cons_cons _ ?_ | refine List.Sublist.cons _ ?_ | exact Sbp.refl | exact Sbp.nil | refine Sbp.cons (by repeat (first | exact Rem.head | apply Rem.tail)) ?_ | exact Sbp.app | refine Sbp.skip ?_ | exact List.sublist_append_left _ _ | exact List.sublist_append_right _ _)), ?_⟩
            refine RT2.take2 (i := 19) rfl (by kernel_rfl) rfl (QO.fieldAddr fo77_3 (by rfl)) ?_
            refine RT2.oneX (i := 20) (by kernel_rfl) rfl (by kernel_rfl) ?_
            refine RS.store1 ty3 rfl (by rfl) (by rfl) (by rfl) (by repeat (first | exact Upd.head | apply Upd.tail)) (by first | (simp; done) | (simp; omega) | omega) ?_
            refine RS.nil ⟨(by repeat (first | exact List.Sublist.refl _ | exact List.nil_sublist _ | refine List.Sublist.cons_cons _ ?_ | refine List.Sublist.cons _ ?_ | exact Sbp.refl | exact Sbp.nil | refine Sbp.cons (by repeat (first | exact Rem.head | apply Rem.tail)) ?_ | exact Sbp.app | refine Sbp.skip ?_ | exact List.sublist_append_left _ _ | exact List.sublist_append_right _ _)), ?_⟩
            refine RT2.done (by kernel_rfl) ?_
            refine blockC_n ?_
            refine thenC_n ?_
            refine CS.region ?_
            first | (refine RS.q rfl (QO.add (by rfl) (by rfl) (by omega) (by omega)) ?_) | (refine RS.q rfl (QO.ibin (by rfl) (by rfl) trivial) ?_)
            refine RS.q rfl (QO.move) ?_
            refine RS.nil ?_
            refine loopQ_n (by intro t ht; repeat (first | with_reducible exact rfl | exact frame_puts ht (frame_mix ht) _ rfl | (refine frame_put rfl ht ?_) | (refine frame_puts ht ?_ _ rfl) | exact frame_mix ht | (refine frame_mix2 rfl ht ?_) | exact rfl)) ?_
            have hqm : q = m := by omega
            exact ⟨k + 1, by omega, by omega, (by repeat (first | exact kn_nil | refine kn_cons (by rfl) ?_)), sbp2 (blk_add (hsum (-1)) (hsum (m : Int)) (hsum (-2))) (row_fin (F := (fun j : Nat => sumR (HT (j : Int)) (l.take k))) (G := (fun j : Nat => HT (j : Int) t)) (F' := (fun j : Nat => sumR (HT (j : Int)) (l.take (k + 1)))) hqm (fun j => hsum (j : Int))) (by repeat (first | exact List.Sublist.refl _ | exact List.nil_sublist _ | refine List.Sublist.cons_cons _ ?_ | refine List.Sublist.cons _ ?_ | exact Sbp.refl | exact Sbp.nil | refine Sbp.cons (by repeat (first | exact Rem.head | apply Rem.tail)) ?_ | exact Sbp.app | refine Sbp.skip ?_ | exact List.sublist_append_left _ _ | exact List.sublist_append_right _ _))⟩
      · have hb0p := of_decide_eq_false hb0
        refine CS.exit ?_
        refine thenC_x ?_
        refine loopQ_x ?_
        refine blockC_x ?_
        refine thenC_n ?_
        refine CS.seq ?_
        refine CS.seq ?_
        refine CS.region ?_
        have hkl : k = l.length := by omega
        have hfin : ∀ x, sumR (HT x) (l.take k) = hB (fBf ys ch lo hi m) (a * b) x := fun x => by rw [hkl, List.take_length]; exact hall x
        refine RS.q rfl (QO.fieldAddr fo77_0 (by rfl)) ?_
        first | (refine RS.q rfl (QO.load ty39 (by rfl) (by repeat (first | exact List.Mem.head _ | refine List.Mem.tail _ ?_)) (by rfl)) ?_) | (refine RS.q rfl (QO.loadO ty39 (by rfl) (by assumption)) ?_) | (refine RS.q rfl (QO.load ty39 (by rfl) (by repeat (first | exact List.Mem.head _ | refine List.Mem.tail _ ?_)) (by assumption)) ?_)
        refine RS.q rfl (QO.lenS Try.underlying39 (by rfl)) ?_
        refine RS.q rfl (QO.move) ?_
        refine RS.nil ?_
        refine thenC_n ?_
        refine CS.block ?_
        refine CS.loop (X := Nat) (8 :: 20 :: 21 :: 118 :: 119 :: 120 :: 121 :: 122 :: 123 :: 124 :: 125 :: 126 :: 127 :: 128 :: 129 :: 130 :: []) (fun i => [(118, iv (i : Int))]) (fun i => [⟨g12, 77, [.slice (some ⟨g46, 0, none⟩) m m, iv ((sumR (HT (-1)) (l.take k) : Nat) : Int), iv ((sumR (HT (m : Int)) (l.take k) : Nat) : Int), iv ((sumR (HT (-2)) (l.take k) : Nat) : Int)]⟩, ⟨g46, 3, rowN (fun j : Nat => sumR (HT (j : Int)) (l.take k)) m⟩, ⟨g9, 77, [.slice (some ⟨ga, 0, none⟩) m m, iv ((hB (fBf ys ch lo hi m) (a * b) (-1) : Nat) : Int), iv ((hB (fBf ys ch lo hi m) (a * b) (m : Int) : Nat) : Int), iv ((hB (fBf ys ch lo hi m) (a * b) (-2) : Nat) : Int)]⟩, ⟨ga, 3, rowB (fBf ys ch lo hi m) (a * b) m⟩]) (fun i => i ≤ m) (fun i => m - i) 0 (Nat.zero_le _) ?_ ?_ ?_
        · exact (by repeat (first | exact kn_nil | refine kn_cons (by rfl) ?_))
        · exact (by repeat (first | exact List.Sublist.refl _ | exact List.nil_sublist _ | refine List.Sublist.cons_cons _ ?_ | refine List.Sublist.cons _ ?_ | exact Sbp.refl | exact Sbp.nil | refine Sbp.cons (by repeat (first | exact Rem.head | apply Rem.tail)) ?_ | exact Sbp.app | refine Sbp.skip ?_ | exact List.sublist_append_left _ _ | exact List.sublist_append_right _ _))
        · intro i gj28 hz
          refine CS.seq ?_
          refine CS.region ?_
          refine RS.q rfl (QO.lss (by rfl) (by rfl)) ?_
          refine RS.nil ?_
          refine thenC_n ?_
          refine CS.seq ?_
          refine CS.cond (by rfl) (fun hb2 => ?_) (fun hb2 => ?_)
          · have hb2p := of_decide_eq_true hb2
            refine CS.skip ?_
            refine thenC_n ?_
            refine CS.seq ?_
            refine CS.block ?_
            refine CS.seq ?_
            refine CS.region ?_
            refine RS.q rfl (QO.move) ?_
            first | (refine RS.q rfl (QO.idx0 Try.underlying39 ty3 (by rfl) (by rfl) (by rfl) (by omega)) ?_) | (refine RS.q rfl (QO.idxn Try.underlying39 ty3 (by rfl) (by rfl) (by rfl) (by omega)) ?_) | (refine RS.q rfl (QO.idx1 Try.underlying39 ty3 (by rfl) (by rfl) (by omega) (by omega)) ?_)
            refine RS.q rfl (QO.load ty3 (by rfl) (by repeat (first | exact List.Mem.head _ | refine List.Mem.tail _ ?_)) (rowB_at (M := m) (j := i) (by omega))) ?_
            refine RS.q rfl (QO.assign) ?_
            refine RS.q rfl (QO.assign) ?_
            refine RS.nil ?_
            refine thenC_n ?_
            refine CS.seq ?_
            refine CS.region ?_
            refine RS.q rfl (QO.fieldAddr fo77_0 (by rfl)) ?_
            first | (refine RS.q rfl (QO.load ty39 (by rfl) (by repeat (first | exact List.Mem.head _ | refine List.Mem.tail _ ?_)) (by rfl)) ?_) | (refine RS.q rfl (QO.loadO ty39 (by rfl) (by assumption)) ?_) | (refine RS.q rfl (QO.load ty39 (by rfl) (by repeat (first | exact List.Mem.head _ | refine List.Mem.tail _ ?_)) (by assumption)) ?_)
            refine RS.q rfl (QO.move) ?_
            first | (refine RS.q rfl (QO.idx0 Try.underlying39 ty3 (by rfl) (by rfl) (by rfl) (by omega)) ?_) | (refine RS.q rfl (QO.idxn Try.underlying39 ty3 (by rfl) (by rfl) (by rfl) (by omega)) ?_) | (refine RS.q rfl (QO.idx1 Try.underlying39 ty3 (by rfl) (by rfl) (by omega) (by omega)) ?_)
            refine RS.qv rfl (QO.load ty3 (by rfl) (by repeat (first | exact List.Mem.head _ | refine List.Mem.tail _ ?_)) (rowN_at (f := (fun j : Nat => sumR (HT (j : Int)) (l.take k))) (j := i) (by omega))) (congrArg (fun z : Nat => iv (z : Int)) (hfin (i : Int))) ?_
            refine RS.q rfl (QO.move) ?_
            refine RS.qv rfl (QO.neq (by rfl) (by rfl)) (congrArg Value.bool (bne_self_eq_false _)) ?_
            refine RS.nil ?_
            refine thenC_n ?_
            refine CS.condF (by rfl) rfl ?_
            refine CS.skip ?_
            refine blockC_n ?_
            refine thenC_n ?_
            refine CS.region ?_
            first | (refine RS.q rfl (QO.add (by rfl) (by rfl) (by omega) (by omega)) ?_) | (refine RS.q rfl (QO.ibin (by rfl) (by rfl) trivial) ?_)
            refine RS.q rfl (QO.move) ?_
            refine RS.nil ?_
            refine loopQ_n (by intro t ht; repeat (first | with_reducible exact rfl | exact frame_puts ht (frame_mix ht) _ rfl | (refine frame_put rfl ht ?_) | (refine frame_puts ht ?_ _ rfl) | exact frame_mix ht | (refine frame_mix2 rfl ht ?_) | exact rfl)) ?_
            exact ⟨i + 1, by omega, by omega, (by repeat (first | exact kn_nil | refine kn_cons (by rfl) ?_)), (by repeat (first | exact List.Sublist.refl _ | exact List.nil_sublist _ | refine List.Sublist.cons_cons _ ?_ | refine List.Sublist.cons _ ?_ | exact Sbp.refl | exact Sbp.nil | refine Sbp.cons (by repeat (first | exact Rem.head | apply Rem.tail)) ?_ | exact Sbp.app | refine Sbp.skip ?_ | exact List.sublist_append_left _ _ | exact List.sublist_append_right _ _))⟩
          · have hb2p := of_decide_eq_false hb2
            refine CS.exit ?_
            refine thenC_x ?_
            refine loopQ_x ?_
            refine blockC_x ?_
            refine thenC_n ?_
            refine CS.seq ?_
            refine CS.region ?_
            refine RS.q rfl (QO.fieldAddr fo77_1 (by rfl)) ?_
            first | (refine RS.qv rfl (QO.load ty3 (by rfl) (by repeat (first | exact List.Mem.head _ | refine List.Mem.tail _ ?_)) (by rfl)) (congrArg (fun z : Nat => iv (z : Int)) (hfin (-1))) ?_) | (refine RS.qv rfl (QO.loadO ty3 (by rfl) (by assumption)) (congrArg (fun z : Nat => iv (z : Int)) (hfin (-1))) ?_) | (refine RS.qv rfl (QO.load ty3 (by rfl) (by repeat (first | exact List.Mem.head _ | refine List.Mem.tail _ ?_)) (by assumption)) (congrArg (fun z : Nat => iv (z : Int)) (hfin (-1))) ?_)
            refine RS.q rfl (QO.fieldAddr fo77_1 (by rfl)) ?_
            first | (refine RS.q rfl (QO.load ty3 (by rfl) (by repeat (first | exact List.Mem.head _ | refine List.Mem.tail _ ?_)) (by rfl)) ?_) | (refine RS.q rfl (QO.loadO ty3 (by rfl) (by assumption)) ?_) | (refine RS.q rfl (QO.load ty3 (by rfl) (by repeat (first | exact List.Mem.head _ | refine List.Mem.tail _ ?_)) (by assumption)) ?_)
            refine RS.qv rfl (QO.eql (by rfl) (by rfl)) (congrArg Value.bool (beq_self_eq_true _)) ?_
            refine RS.q rfl (QO.move) ?_
            refine RS.on (dj := 136) rfl (congrArg Value.bool rfl) ?_
            refine RS.q rfl (QO.fieldAddr fo77_2 (by rfl)) ?_
            refine RS.on (dj := 136) rfl (congrArg Value.bool rfl) ?_
            first | (refine RS.qv rfl (QO.load ty3 (by rfl) (by repeat (first | exact List.Mem.head _ | refine List.Mem.tail _ ?_)) (by rfl)) (congrArg (fun z : Nat => iv (z : Int)) (hfin (m : Int))) ?_) | (refine RS.qv rfl (QO.loadO ty3 (by rfl) (by assumption)) (congrArg (fun z : Nat => iv (z : Int)) (hfin (m : Int))) ?_) | (refine RS.qv rfl (QO.load ty3 (by rfl) (by repeat (first | exact List.Mem.head _ | refine List.Mem.tail _ ?_)) (by assumption)) (congrArg (fun z : Nat => iv (z : Int)) (hfin (m : Int))) ?_)
            refine RS.on (dj := 136) rfl (congrArg Value.bool rfl) ?_
            refine RS.q rfl (QO.fieldAddr fo77_2 (by rfl)) ?_
            refine RS.on (dj := 136) rfl (congrArg Value.bool rfl) ?_
            first | (refine RS.q rfl (QO.load ty3 (by rfl) (by repeat (first | exact List.Mem.head _ | refine List.Mem.tail _ ?_)) (by rfl)) ?_) | (refine RS.q rfl (QO.loadO ty3 (by rfl) (by assumption)) ?_) | (refine RS.q rfl (QO.load ty3 (by rfl) (by repeat (first | exact List.Mem.head _ | refine List.Mem.tail _ ?_)) (by assumption)) ?_)
            refine RS.on (dj := 136) rfl (congrArg Value.bool rfl) ?_
            refine RS.qv rfl (QO.eql (by rfl) (by rfl)) (congrArg Value.bool (beq_self_eq_true _)) ?_
            refine RS.q rfl (QO.pickT (by rfl) rfl (by rfl)) ?_
            refine RS.q rfl (QO.move) ?_
            refine RS.on (dj := 143) rfl (congrArg Value.bool rfl) ?_
            refine RS.q rfl (QO.fieldAddr fo77_3 (by rfl)) ?_
            refine RS.on (dj := 143) rfl (congrArg Value.bool rfl) ?_
            first | (refine RS.qv rfl (QO.load ty3 (by rfl) (by repeat (first | exact List.Mem.head _ | refine List.Mem.tail _ ?_)) (by rfl)) (congrArg (fun z : Nat => iv (z : Int)) (hfin (-2))) ?_) | (refine RS.qv rfl (QO.loadO ty3 (by rfl) (by assumption)) (congrArg (fun z : Nat => iv (z : Int)) (hfin (-2))) ?_) | (refine RS.qv rfl (QO.load ty3 (by rfl) (by repeat (first | exact List.Mem.head _ | refine List.Mem.tail _ ?_)) (by assumption)) (congrArg (fun z : Nat => iv (z : Int)) (hfin (-2))) ?_)
            refine RS.on (dj := 143) rfl (congrArg Value.bool rfl) ?_
            refine RS.q rfl (QO.fieldAddr fo77_3 (by rfl)) ?_
            refine RS.on (dj := 143) rfl (congrArg Value.bool rfl) ?_
            first | (refine RS.q rfl (QO.load ty3 (by rfl) (by repeat (first | exact List.Mem.head _ | refine List.Mem.tail _ ?_)) (by rfl)) ?_) | (refine RS.q rfl (QO.loadO ty3 (by rfl) (by assumption)) ?_) | (refine RS.q rfl (QO.load ty3 (by rfl) (by repeat (first | exact List.Mem.head _ | refine List.Mem.tail _ ?_)) (by assumption)) ?_)
            refine RS.on (dj := 143) rfl (congrArg Value.bool rfl) ?_
            refine RS.qv rfl (QO.eql (by rfl) (by rfl)) (congrArg Value.bool (beq_self_eq_true _)) ?_
            refine RS.q rfl (QO.pickT (by rfl) rfl (by rfl)) ?_
            refine RS.q rfl (QO.assign) ?_
            refine RS.nil ?_
            refine thenC_n ?_
            refine CS.ret ?_
            refine retQ.mk (H' := []) (.inr rfl) (RVs.tmp (by rfl) RVs.nil) (List.nil_sublist _) ?_
            exact ⟨rfl, rfl⟩
  · refine CS.region ?_
    refine RS.q rfl (QO.move) ?_
    refine RS.qv rfl (QO.neq (by rfl) (by rfl)) (congrArg Value.bool (show (tErr X Y (a : Int) (b : Int) side != 0) = true from bne_iff_ne.2 hsp8)) ?_
    refine RS.nil ?_
    refine thenC_n ?_
    refine CS.condT (by rfl) rfl ?_
    refine CS.seq ?_
    refine CS.region ?_
    refine RS.q rfl (QO.assign) ?_
    refine RS.nil ?_
    refine thenC_n ?_
    refine CS.ret ?_
    refine thenC_r ?_
    refine retQ.mk (H' := []) (.inr rfl) (RVs.tmp (by rfl) RVs.nil) (List.nil_sublist _) ?_
    exact ⟨rfl, rfl⟩

theorem topScopes (x y wi he : Int) (A : Option Addr) (n c : Nat) (xs : List Nat) (side ch : Int) (lo hi : Nat) (M : Int) (W : World) (hn : xs.length = n) (hA : FS W A xs) (hlx : n ≤ maxLen) : Fn_ Try.prog 7 #[.agg #[iv x, iv y, iv wi, iv he, .slice A n c], iv side, iv ch, .agg #[flt lo, flt hi, iv M]] W (fun v H => v = .bool true ∧ H = []) := by
  by_cases h : (0 ≤ ch ∧ ch ≤ 4) ∧ okB lo hi M
  · have hM := h.2.2.2.2.1
    obtain ⟨m, rfl⟩ : ∃ m : Nat, M = (m : Int) := ⟨M.toNat, by omega⟩
    exact tsOk x y wi he A n c xs side ch lo hi m W hn hA hlx h.1.1 h.1.2 h.2
  · exact tsBad x y wi he A n c xs side ch lo hi M W hn hA hlx h

end Go.Proofs.Ytapcgokcfmklbaa

namespace Go.Proofs.Ytapcgokcfmklbaa
open Go Go.ChangeShapes Go.WideShapes Go.ChangeAt Go.RowKit
open Go.ChangeMaps (open_string shut_string)

theorem topScopesOfTiles_own : ownKnob Try.prog.godebug = none := by kernel_rfl
theorem topScopesOfTiles_laidOut : laidOutB Try.prog = true := by kernel_rfl
theorem topScopesOfTiles_lv26 : leaves Try.prog 9 26 = some [3, 3, 3, 3, 24] := by kernel_rfl
theorem topScopesOfTiles_lv75 : leaves Try.prog 9 75 = some [29, 29, 3] := by kernel_rfl
theorem topScopesOfTiles_co29 : Try.prog.cellsOf 29 = 1 := by kernel_rfl

set_option maxHeartbeats 4000000 in
set_option maxRecDepth 100000 in
theorem topScopesOfTiles_lifted (os : Os) (started : os.Started) (H : Type) (enc : TypeId × Value → H) :
    ReturnsInHanded {} Try.checked os 7 .any (Rows.topScopesOfTilesSpec.pre6 enc Try.prog Try.f7 Rows.topScopesOfTilesRow.domain false) (Rows.topScopesOfTilesSpec.post enc Try.prog Try.f7 false true false false) := by
  refine returnsInHanded_of_change (C := Try.checked) topScopesOfTiles_own started (by kernel_rfl) Try.func7
    (ChangeSpec.witness6 (enc := enc) (C := Try.checked) false ⟨#[], #[.agg #[.int .i64 0, .int .i64 0, .int .i64 0, .int .i64 0, .slice none 0 0], .int .i64 0, .int .i64 0, .agg #[.float .f32 0, .float .f32 0, .int .i64 0]], []⟩ 8 (by kernel_rfl) (by kernel_rfl) (by kernel_rfl) (by kernel_rfl)) ?_
  intro W base args ds gs before hval0 hW hcnd _
  have hval : ∀ (j : Nat) t v, Try.f7.params[j]? = some t → args[j]? = some v → Value.okWide Try.prog W .any base t v := hval0
  have hW' := hW
  obtain ⟨p, q, hA0, hV, rfl, hfz, hnd⟩ := hW
  have hA : DataW.TrodAll enc Try.prog W 0 (fun _ => true) true Try.f7.params.toList args.toList ds p := hA0
  rw [Try.params7] at hA hval
  obtain ⟨v0, vs0, d0, ds0, p0, q0, hargs, rfl, rfl, h0, r0⟩ := trodAll_cons hA
  obtain ⟨v1, vs1, d1, ds1, p1, q1, rfl, rfl, rfl, h1, r1⟩ := trodAll_cons r0
  obtain ⟨v2, vs2, d2, ds2, p2, q2, rfl, rfl, rfl, h2, r2⟩ := trodAll_cons r1
  obtain ⟨v3, vs3, d3, ds3, p3, q3, rfl, rfl, rfl, h3, r3⟩ := trodAll_cons r2
  obtain ⟨rfl, rfl, rfl⟩ := trodAll_nil r3
  obtain rfl : args = #[v0, v1, v2, v3] := by cases args; simp_all
  obtain ⟨rfl, rfl⟩ := trodVars_none hV
  have k0 := h0
  have lt0 : ∀ x ∈ p0, x.block < W.heap.size := by obtain ⟨m, hm⟩ := k0; exact DataW.trod_lt m _ _ _ hm
  have k1 := h1
  have lt1 : ∀ x ∈ p1, x.block < W.heap.size := by obtain ⟨m, hm⟩ := k1; exact DataW.trod_lt m _ _ _ hm
  have k2 := h2
  have lt2 : ∀ x ∈ p2, x.block < W.heap.size := by obtain ⟨m, hm⟩ := k2; exact DataW.trod_lt m _ _ _ hm
  have k3 := h3
  have lt3 : ∀ x ∈ p3, x.block < W.heap.size := by obtain ⟨m, hm⟩ := k3; exact DataW.trod_lt m _ _ _ hm
  obtain ⟨cs0, rfl, a0⟩ := open_agg Try.underlying26 topScopesOfTiles_lv26 (hval 0 26 v0 rfl rfl) h0
  obtain ⟨c0_0, cs0_0, rfl, l0_0, a0_0⟩ := a0.cons_inv
  obtain ⟨c0_1, cs0_1, rfl, l0_1, a0_1⟩ := a0_0.cons_inv
  obtain ⟨c0_2, cs0_2, rfl, l0_2, a0_2⟩ := a0_1.cons_inv
  obtain ⟨c0_3, cs0_3, rfl, l0_3, a0_3⟩ := a0_2.cons_inv
  obtain ⟨c0_4, cs0_4, rfl, l0_4, a0_4⟩ := a0_3.cons_inv
  obtain rfl := a0_4.nil_inv
  obtain ⟨x, el0_0, l0_0_w⟩ := l0_0.int Try.underlying3
  cases el0_0
  obtain ⟨y, el0_1, l0_1_w⟩ := l0_1.int Try.underlying3
  cases el0_1
  obtain ⟨wi, el0_2, l0_2_w⟩ := l0_2.int Try.underlying3
  cases el0_2
  obtain ⟨he, el0_3, l0_3_w⟩ := l0_3.int Try.underlying3
  cases el0_3
  obtain ⟨xs_A, xs_n, xs_c, xs, el0_4, xs_m, xs_l, xs_f, xs_b⟩ := l0_4.floats Try.underlying24 Try.underlying29 topScopesOfTiles_co29
  cases el0_4
  have hc1 : v1.cells.toList = [v1] := by obtain ⟨_, rfl⟩ := okWide_int Try.underlying3 (hval 1 3 v1 rfl rfl); rfl
  have l1 := leaf_of h1 hc1
  obtain ⟨sd, el1, l1_w⟩ := l1.int Try.underlying3
  cases el1
  have hc2 : v2.cells.toList = [v2] := by obtain ⟨_, rfl⟩ := okWide_int Try.underlying3 (hval 2 3 v2 rfl rfl); rfl
  have l2 := leaf_of h2 hc2
  obtain ⟨ch, el2, l2_w⟩ := l2.int Try.underlying3
  cases el2
  obtain ⟨cs3, rfl, a3⟩ := open_agg Try.underlying75 topScopesOfTiles_lv75 (hval 3 75 v3 rfl rfl) h3
  obtain ⟨c3_0, cs3_0, rfl, l3_0, a3_0⟩ := a3.cons_inv
  obtain ⟨c3_1, cs3_1, rfl, l3_1, a3_1⟩ := a3_0.cons_inv
  obtain ⟨c3_2, cs3_2, rfl, l3_2, a3_2⟩ := a3_1.cons_inv
  obtain rfl := a3_2.nil_inv
  obtain ⟨blo, el3_0, l3_0_w⟩ := l3_0.float Try.underlying29
  cases el3_0
  obtain ⟨bhi, el3_1, l3_1_w⟩ := l3_1.float Try.underlying29
  cases el3_1
  obtain ⟨bm, el3_2, l3_2_w⟩ := l3_2.int Try.underlying3
  cases el3_2
  clear hA0 hval0
  refine Calls.mono (topScopes x y wi he xs_A xs_n xs_c xs sd ch blo bhi bm W xs_l xs_f xs_m) fun e W' hp => ?_
  obtain ⟨v, HL, rfl, own, rfl, rfl⟩ := hp
  have bel := own.below
  exact ⟨_, rfl, _, _, _, [], _, [], hW', trodAll_mk1 (shut_bool Try.underlying4 _), (trodAll_cons_mk (Below.trod topScopesOfTiles_laidOut (by kernel_rfl) (of_decide_eq_true (by kernel_rfl)) k0 bel lt0) (trodAll_cons_mk (Below.trod topScopesOfTiles_laidOut (by kernel_rfl) (of_decide_eq_true (by kernel_rfl)) k1 bel lt1) (trodAll_cons_mk (Below.trod topScopesOfTiles_laidOut (by kernel_rfl) (of_decide_eq_true (by kernel_rfl)) k2 bel lt2) (trodAll_cons_mk (Below.trod topScopesOfTiles_laidOut (by kernel_rfl) (of_decide_eq_true (by kernel_rfl)) k3 bel lt3) trodAll_mk0)))), rfl, bel.frame _, fun h => by cases h⟩

theorem topScopesOfTiles_over : Rows.topScopesOfTilesRow.holds Try.pinned (OpenSpec.ofChange Rows.topScopesOfTilesSpec) :=
  OpenClaim.holds_of_wide 7 Try.f7 rfl rfl rfl rfl rfl rfl rfl ⟨rfl, rfl, rfl, rfl, rfl⟩ rfl rfl rfl rfl rfl (by kernel_rfl) Try.func7 (by kernel_rfl)
    (of_decide_eq_true (by kernel_rfl)) (by unfold Func.isWrapper; first | (rw [if_pos (by decide +kernel)]; kernel_rfl) | (rw [if_neg (by decide +kernel)]; exact ⟨rfl, rfl⟩))
    (fun os started H enc _ => topScopesOfTiles_lifted os started H enc)

/-- THE STATEMENT. -/
theorem scopes_holds : Rows.TopScopesOfTilesSaid := topScopesOfTiles_over
#print axioms scopes_holds
end Go.Proofs.Ytapcgokcfmklbaa
