/-
  Contracts: FramesCheck. Conditions: as each theorem says.
-/
import Derived.Test.YtapcgokcfmklbaaDoorC12
namespace Go.Proofs.YtapcgokcfmklbaaDoor
open Go Go.Proofs Go.RowKit

theorem ok14 : callOK Tryd.prog 14 = true := by kernel_rfl
theorem ok19 : callOK Tryd.prog 19 = true := by kernel_rfl
theorem ok20 : callOK Tryd.prog 20 = true := by kernel_rfl
theorem ok24 : callOK Tryd.prog 24 = true := by kernel_rfl

theorem eqg38 : Tryd.prog.eqGuardType Tryd.prog.depth 38 = false := by kernel_rfl
theorem eqz38 (w : World) : (Op.equalIn 10000 38 (.agg #[flt 0, flt 0, flt 0, flt 0]) (.agg #[flt 0, flt 0, flt 0, flt 0])).run Tryd.prog w = .ok true w := by kernel_rfl
theorem QO.aneqC {P : Program} {W : World} {H : HL} {e : Env} {x y : Operand} {t t' ty : TypeId} {xs ys : Array Value} {b : Bool} (hx : ev e x = .agg xs) (hy : ev e y = .agg ys) (hg : P.eqGuardType P.depth t = false) (h : ∀ w, (Op.equalIn 10000 t (.agg xs) (.agg ys)).run P w = .ok b w) : QO P W H e (.binOp .neq t x y t') ty (.bool !b) := by
  refine QO.bin hx hy (fun w => ?_)
  simp only [Sem.run_bind, run_eqGuard_agg w .neq t x y _ _ hg, Result.andThen_ok, run_neq_struct, h]

set_option maxRecDepth 100000 in
theorem frameError (x y wi he : Int) (A : Option Addr) (n c : Nat) (W : World) (bx : -9223372036854775808 ≤ x ∧ x ≤ 9223372036854775807) : Fn_ Tryd.prog 14 #[.agg #[iv x, iv y, iv wi, iv he, .slice A n c]] W (fun v H => v = iv (frErr x y wi he n) ∧ H = []) := by
  refine Fn_.intro Tryd.func14 rfl rfl (by rfl) ?_
  refine CS.seq ?_
  refine CS.region ?_
  refine RS.box rfl (by rfl) (by rfl) ?_
  intro g1
  refine RS.q rfl (QO.assign) ?_
  refine RS.nil ?_
  refine thenC_n ?_
  refine CS.seq ?_
  refine CS.draw 19 rfl (by kernel_rfl) (by kernel_rfl) ?_
  refine RT.take (i := 0) rfl (by kernel_rfl) rfl (QO.fieldAddr fo34_0 (by rfl)) ?_
  first | (refine RT.take (i := 1) rfl (by kernel_rfl) rfl (QO.loadB ty31 (by rfl) (by repeat (first | exact List.Mem.head _ | refine List.Mem.tail _ ?_)) (by rfl)) ?_) | (refine RT.take (i := 1) rfl (by kernel_rfl) rfl (QO.loadA ty31 (by rfl) (by repeat (first | exact List.Mem.head _ | refine List.Mem.tail _ ?_)) (by rfl) (by rfl)) ?_) | (refine RT.take (i := 1) rfl (by kernel_rfl) rfl (QO.loadOA ty31 (by rfl) (by assumption) (by rfl)) ?_)
  refine RT.take (i := 3) rfl (by kernel_rfl) rfl (QO.fieldAddr fo34_1 (by rfl)) ?_
  first | (refine RT.take (i := 4) rfl (by kernel_rfl) rfl (QO.load ty32 (by rfl) (by repeat (first | exact List.Mem.head _ | refine List.Mem.tail _ ?_)) (by rfl)) ?_) | (refine RT.take (i := 4) rfl (by kernel_rfl) rfl (QO.loadO ty32 (by rfl) (by assumption)) ?_) | (refine RT.take (i := 4) rfl (by kernel_rfl) rfl (QO.load ty32 (by rfl) (by repeat (first | exact List.Mem.head _ | refine List.Mem.tail _ ?_)) (by assumption)) ?_)
  refine RT.take (i := 5) rfl (by kernel_rfl) rfl (QO.lenS Tryd.underlying32 (by rfl)) ?_
  refine RT.take (i := 6) rfl (by kernel_rfl) rfl (QO.fieldAddr fo34_0 (by rfl)) ?_
  refine RT.take (i := 7) rfl (by kernel_rfl) rfl (QO.fieldAddr fo31_2 (by rfl)) ?_
  first | (refine RT.take (i := 8) rfl (by kernel_rfl) rfl (QO.load ty3 (by rfl) (by repeat (first | exact List.Mem.head _ | refine List.Mem.tail _ ?_)) (by rfl)) ?_) | (refine RT.take (i := 8) rfl (by kernel_rfl) rfl (QO.loadO ty3 (by rfl) (by assumption)) ?_) | (refine RT.take (i := 8) rfl (by kernel_rfl) rfl (QO.load ty3 (by rfl) (by repeat (first | exact List.Mem.head _ | refine List.Mem.tail _ ?_)) (by assumption)) ?_)
  refine RT.take (i := 9) rfl (by kernel_rfl) rfl (QO.ibin (by rfl) (by rfl) trivial) ?_
  refine RT.take (i := 10) rfl (by kernel_rfl) rfl (QO.fieldAddr fo34_0 (by rfl)) ?_
  refine RT.take (i := 11) rfl (by kernel_rfl) rfl (QO.fieldAddr fo31_3 (by rfl)) ?_
  first | (refine RT.take (i := 12) rfl (by kernel_rfl) rfl (QO.load ty3 (by rfl) (by repeat (first | exact List.Mem.head _ | refine List.Mem.tail _ ?_)) (by rfl)) ?_) | (refine RT.take (i := 12) rfl (by kernel_rfl) rfl (QO.loadO ty3 (by rfl) (by assumption)) ?_) | (refine RT.take (i := 12) rfl (by kernel_rfl) rfl (QO.load ty3 (by rfl) (by repeat (first | exact List.Mem.head _ | refine List.Mem.tail _ ?_)) (by assumption)) ?_)
  refine RT.take (i := 13) rfl (by kernel_rfl) rfl (QO.ibin (by rfl) (by rfl) trivial) ?_
  refine RT.take (i := 14) rfl (by kernel_rfl) rfl (QO.neq (by rfl) (by rfl)) ?_
  refine RT.one (i := 2) (by kernel_rfl) rfl rfl ?_
  refine RS.call rfl (by rfl) ok67 (by rfl) (fun w ho => regionError _ _ _ _ _ bx) ?_
  rintro _ _ ⟨rfl, rfl⟩
  refine RS.nil ⟨(by repeat (first | exact List.Sublist.refl _ | exact List.nil_sublist _ | refine List.Sublist.cons_cons _ ?_ | refine List.Sublist.cons _ ?_ | exact Sbp.refl | exact Sbp.nil | refine Sbp.cons (by repeat (first | exact Rem.head | apply Rem.tail)) ?_ | exact Sbp.app | refine Sbp.skip ?_)), ?_⟩
  refine RT.one (i := 15) (by kernel_rfl) rfl rfl ?_
  refine RS.call rfl (by rfl) ok68 (by rfl) (fun w ho => when _ _ _) ?_
  rintro _ _ ⟨rfl, rfl⟩
  refine RS.nil ⟨(by repeat (first | exact List.Sublist.refl _ | exact List.nil_sublist _ | refine List.Sublist.cons_cons _ ?_ | refine List.Sublist.cons _ ?_ | exact Sbp.refl | exact Sbp.nil | refine Sbp.cons (by repeat (first | exact Rem.head | apply Rem.tail)) ?_ | exact Sbp.app | refine Sbp.skip ?_)), ?_⟩
  refine RT.one (i := 16) (by kernel_rfl) rfl rfl ?_
  refine RS.buildSlice rfl Tryd.underlying183 ty26 (by decide) (by decide) (by rfl) (by rfl) ?_
  intro g19
  refine RS.nil ⟨(by repeat (first | exact List.Sublist.refl _ | exact List.nil_sublist _ | refine List.Sublist.cons_cons _ ?_ | refine List.Sublist.cons _ ?_ | exact Sbp.refl | exact Sbp.nil | refine Sbp.cons (by repeat (first | exact Rem.head | apply Rem.tail)) ?_ | exact Sbp.app | refine Sbp.skip ?_)), ?_⟩
  refine RT.one (i := 17) (by kernel_rfl) rfl rfl ?_
  refine RS.call rfl (by rfl) ok66 (by rfl) (fun w ho => first2 _ _ _ _ (fun j v hj => ho.cell0 (by repeat (first | exact List.Mem.head _ | refine List.Mem.tail _ ?_)) hj)) ?_
  rintro _ _ ⟨rfl, rfl⟩
  refine RS.nil ⟨(by repeat (first | exact List.Sublist.refl _ | exact List.nil_sublist _ | refine List.Sublist.cons_cons _ ?_ | refine List.Sublist.cons _ ?_ | exact Sbp.refl | exact Sbp.nil | refine Sbp.cons (by repeat (first | exact Rem.head | apply Rem.tail)) ?_ | exact Sbp.app | refine Sbp.skip ?_)), ?_⟩
  refine RT.take (i := 18) rfl (by kernel_rfl) rfl (QO.assign) ?_
  refine RT.done (by kernel_rfl) ?_
  refine thenC_n ?_
  refine CS.ret ?_
  refine retQ.mk (H' := []) (.inr rfl) (RVs.tmp (by rfl) RVs.nil) (List.nil_sublist _) ?_
  exact ⟨congrArg iv (by
      unfold frErr
      by_cases h : regErr x y wi he = 0
      · rw [h]
        simp only [ne_eq, not_true_eq_false, if_false]
        have hro := regErr_ok h
        have hw1 : IntKind.i64.wrap (4 * wi) = 4 * wi := w64 (by omega) (by omega)
        rw [hw1]
        have hw : IntKind.i64.wrap (4 * wi * he) = 4 * wi * he := w64 (by omega) (by omega)
        rw [hw]
        by_cases h2 : (n : Int) = 4 * wi * he
        · rw [if_neg (Decidable.not_not.2 h2), h2]; simp
        · rw [if_pos h2, if_pos (bne_iff_ne.2 h2)]
      · rw [if_pos h, if_pos h]), rfl⟩

set_option maxRecDepth 100000 in
theorem clean_err (x y wi he : Int) (A : Option Addr) (n c : Nat) (W : World) (he0 : frErr x y wi he n ≠ 0) : Fn_ Tryd.prog 18 #[.agg #[iv x, iv y, iv wi, iv he, .slice A n c]] W (fun v H => v = .tuple #[.agg #[iv 0, iv 0, iv 0, iv 0, .slice none 0 0], iv (frErr x y wi he n)] ∧ H = []) := by
  refine Fn_.intro Tryd.func18 rfl rfl (by rfl) ?_
  refine CS.seq ?_
  refine CS.region ?_
  refine RS.box rfl (by rfl) (by rfl) ?_
  intro g1
  refine RS.alloc rfl ty34 ?_
  intro g2
  refine RS.q rfl (QO.assign) ?_
  refine RS.nil ?_
  refine thenC_n ?_
  refine CS.seq ?_
  refine CS.seq ?_
  refine CS.region ?_
  first | (refine RS.q rfl (QO.loadB ty34 (by rfl) (by repeat (first | exact List.Mem.head _ | refine List.Mem.tail _ ?_)) (by rfl)) ?_) | (refine RS.q rfl (QO.loadA ty34 (by rfl) (by repeat (first | exact List.Mem.head _ | refine List.Mem.tail _ ?_)) (by rfl) (by rfl)) ?_) | (refine RS.q rfl (QO.loadOA ty34 (by rfl) (by assumption) (by rfl)) ?_)
  refine RS.call rfl (by rfl) ok15 (by rfl) (fun w ho => check _ _ _ _ _ _ _ _) ?_
  rintro _ _ ⟨rfl, rfl⟩
  refine RS.q rfl (QO.assign) ?_
  refine RS.nil ?_
  refine thenC_n ?_
  refine CS.seq ?_
  refine CS.region ?_
  refine RS.q rfl (QO.move) ?_
  refine RS.qv rfl (QO.neq (by rfl) (by rfl)) (congrArg Value.bool (show (frErr x y wi he n != 0) = true from bne_iff_ne.2 he0)) ?_
  refine RS.nil ?_
  refine thenC_n ?_
  refine CS.condT (by rfl) rfl ?_
  refine CS.seq ?_
  refine CS.region ?_
  refine RS.q rfl (QO.build ty34 pl34 (by rfl)) ?_
  refine RS.q rfl (QO.move) ?_
  first | refine RS.storeB ty34 (by rfl) (by rfl) (by rfl) (by rfl) (by rfl) (by repeat (first | exact Upd.head | apply Upd.tail)) (by rfl) ?_ | refine RS.storeP ty34 (by rfl) (by rfl) (by rfl) (by rfl) (by rfl) (by repeat (first | exact Upd.head | apply Upd.tail)) (by rfl) ?_
  refine RS.q rfl (QO.assign) ?_
  refine RS.nil ?_
  refine thenC_n ?_
  refine CS.ret ?_
  refine thenC_r ?_
  refine retQ.mk (H' := []) (.inr rfl) (RVs.cellA ty34 (by rfl) (by repeat (first | exact List.Mem.head _ | refine List.Mem.tail _ ?_)) (by rfl) (RVs.tmp (by rfl) RVs.nil)) (List.nil_sublist _) ?_
  exact ⟨rfl, rfl⟩

set_option maxRecDepth 100000 in
theorem at_err (X Y : Int) (x y wi he : Int) (A : Option Addr) (n c : Nat) (W : World) (he0 : frErr x y wi he n ≠ 0) : Fn_ Tryd.prog 19 #[.agg #[iv x, iv y, iv wi, iv he, .slice A n c], iv X, iv Y] W (fun v H => v = .tuple #[.agg #[flt 0, flt 0, flt 0, flt 0], iv (frErr x y wi he n)] ∧ H = []) := by
  refine Fn_.intro Tryd.func19 rfl rfl (by rfl) ?_
  refine CS.seq ?_
  refine CS.region ?_
  refine RS.box rfl (by rfl) (by rfl) ?_
  intro g3
  refine RS.alloc rfl ty38 ?_
  intro g6
  refine RS.q rfl (QO.assign) ?_
  refine RS.nil ?_
  refine thenC_n ?_
  refine CS.seq ?_
  refine CS.seq ?_
  refine CS.region ?_
  first | (refine RS.q rfl (QO.loadB ty34 (by rfl) (by repeat (first | exact List.Mem.head _ | refine List.Mem.tail _ ?_)) (by rfl)) ?_) | (refine RS.q rfl (QO.loadA ty34 (by rfl) (by repeat (first | exact List.Mem.head _ | refine List.Mem.tail _ ?_)) (by rfl) (by rfl)) ?_) | (refine RS.q rfl (QO.loadOA ty34 (by rfl) (by assumption) (by rfl)) ?_)
  refine RS.call rfl (by rfl) ok15 (by rfl) (fun w ho => check _ _ _ _ _ _ _ _) ?_
  rintro _ _ ⟨rfl, rfl⟩
  refine RS.q rfl (QO.assign) ?_
  refine RS.nil ?_
  refine thenC_n ?_
  refine CS.seq ?_
  refine CS.region ?_
  refine RS.q rfl (QO.move) ?_
  refine RS.qv rfl (QO.neq (by rfl) (by rfl)) (congrArg Value.bool (show (frErr x y wi he n != 0) = true from bne_iff_ne.2 he0)) ?_
  refine RS.nil ?_
  refine thenC_n ?_
  refine CS.condT (by rfl) rfl ?_
  refine CS.seq ?_
  refine CS.region ?_
  refine RS.q rfl (QO.buildA Tryd.underlying38 ty38 ty36 (by rfl)) ?_
  refine RS.q rfl (QO.move) ?_
  first | refine RS.storeB ty38 (by rfl) (by rfl) (by rfl) (by rfl) (by rfl) (by repeat (first | exact Upd.head | apply Upd.tail)) (by rfl) ?_ | refine RS.storeP ty38 (by rfl) (by rfl) (by rfl) (by rfl) (by rfl) (by repeat (first | exact Upd.head | apply Upd.tail)) (by rfl) ?_
  refine RS.q rfl (QO.assign) ?_
  refine RS.nil ?_
  refine thenC_n ?_
  refine CS.ret ?_
  refine thenC_r ?_
  refine retQ.mk (H' := []) (.inr rfl) (RVs.cellA ty38 (by rfl) (by repeat (first | exact List.Mem.head _ | refine List.Mem.tail _ ?_)) (by rfl) (RVs.tmp (by rfl) RVs.nil)) (List.nil_sublist _) ?_
  exact ⟨rfl, rfl⟩

set_option maxRecDepth 100000 in
theorem print_err (x y wi he : Int) (A : Option Addr) (n c : Nat) (W : World) (he0 : frErr x y wi he n ≠ 0) : Fn_ Tryd.prog 20 #[.agg #[iv x, iv y, iv wi, iv he, .slice A n c]] W (fun v H => v = .tuple #[.string ByteArray.empty, iv (frErr x y wi he n)] ∧ H = []) := by
  refine Fn_.intro Tryd.func20 rfl rfl (by rfl) ?_
  refine CS.seq ?_
  refine CS.region ?_
  refine RS.box rfl (by rfl) (by rfl) ?_
  intro g1
  refine RS.q rfl (QO.assign) ?_
  refine RS.q rfl (QO.assign) ?_
  refine RS.nil ?_
  refine thenC_n ?_
  refine CS.seq ?_
  refine CS.seq ?_
  refine CS.region ?_
  first | (refine RS.q rfl (QO.loadB ty34 (by rfl) (by repeat (first | exact List.Mem.head _ | refine List.Mem.tail _ ?_)) (by rfl)) ?_) | (refine RS.q rfl (QO.loadA ty34 (by rfl) (by repeat (first | exact List.Mem.head _ | refine List.Mem.tail _ ?_)) (by rfl) (by rfl)) ?_) | (refine RS.q rfl (QO.loadOA ty34 (by rfl) (by assumption) (by rfl)) ?_)
  refine RS.call rfl (by rfl) ok15 (by rfl) (fun w ho => check _ _ _ _ _ _ _ _) ?_
  rintro _ _ ⟨rfl, rfl⟩
  refine RS.q rfl (QO.assign) ?_
  refine RS.nil ?_
  refine thenC_n ?_
  refine CS.seq ?_
  refine CS.region ?_
  refine RS.q rfl (QO.move) ?_
  refine RS.qv rfl (QO.neq (by rfl) (by rfl)) (congrArg Value.bool (show (frErr x y wi he n != 0) = true from bne_iff_ne.2 he0)) ?_
  refine RS.nil ?_
  refine thenC_n ?_
  refine CS.condT (by rfl) rfl ?_
  refine CS.seq ?_
  refine CS.region ?_
  refine RS.q rfl (QO.move) ?_
  refine RS.q rfl (QO.assign) ?_
  refine RS.q rfl (QO.assign) ?_
  refine RS.nil ?_
  refine thenC_n ?_
  refine CS.ret ?_
  refine thenC_r ?_
  refine retQ.mk (H' := []) (.inr rfl) (RVs.tmp (by rfl) (RVs.tmp (by rfl) RVs.nil)) (List.nil_sublist _) ?_
  exact ⟨rfl, rfl⟩

set_option maxRecDepth 100000 in
theorem plane_err (ch : Int) (x y wi he : Int) (A : Option Addr) (n c : Nat) (W : World) (he0 : frErr x y wi he n ≠ 0) : Fn_ Tryd.prog 78 #[.agg #[iv x, iv y, iv wi, iv he, .slice A n c], iv ch] W (fun v H => v = .tuple #[.slice none 0 0, iv (frErr x y wi he n)] ∧ H = []) := by
  refine Fn_.intro Tryd.func78 rfl rfl (by rfl) ?_
  refine CS.seq ?_
  refine CS.region ?_
  refine RS.box rfl (by rfl) (by rfl) ?_
  intro g2
  refine RS.q rfl (QO.assign) ?_
  refine RS.q rfl (QO.assign) ?_
  refine RS.nil ?_
  refine thenC_n ?_
  refine CS.seq ?_
  refine CS.seq ?_
  refine CS.region ?_
  first | (refine RS.q rfl (QO.loadB ty34 (by rfl) (by repeat (first | exact List.Mem.head _ | refine List.Mem.tail _ ?_)) (by rfl)) ?_) | (refine RS.q rfl (QO.loadA ty34 (by rfl) (by repeat (first | exact List.Mem.head _ | refine List.Mem.tail _ ?_)) (by rfl) (by rfl)) ?_) | (refine RS.q rfl (QO.loadOA ty34 (by rfl) (by assumption) (by rfl)) ?_)
  refine RS.call rfl (by rfl) ok15 (by rfl) (fun w ho => check _ _ _ _ _ _ _ _) ?_
  rintro _ _ ⟨rfl, rfl⟩
  refine RS.q rfl (QO.assign) ?_
  refine RS.nil ?_
  refine thenC_n ?_
  refine CS.seq ?_
  refine CS.region ?_
  refine RS.q rfl (QO.move) ?_
  refine RS.qv rfl (QO.neq (by rfl) (by rfl)) (congrArg Value.bool (show (frErr x y wi he n != 0) = true from bne_iff_ne.2 he0)) ?_
  refine RS.nil ?_
  refine thenC_n ?_
  refine CS.condT (by rfl) rfl ?_
  refine CS.seq ?_
  refine CS.region ?_
  refine RS.q rfl (QO.move) ?_
  refine RS.q rfl (QO.assign) ?_
  refine RS.q rfl (QO.assign) ?_
  refine RS.nil ?_
  refine thenC_n ?_
  refine CS.ret ?_
  refine thenC_r ?_
  refine retQ.mk (H' := []) (.inr rfl) (RVs.tmp (by rfl) (RVs.tmp (by rfl) RVs.nil)) (List.nil_sublist _) ?_
  exact ⟨rfl, rfl⟩

set_option maxRecDepth 100000 in
theorem total_err (x y wi he : Int) (A : Option Addr) (n c : Nat) (W : World) (he0 : frErr x y wi he n ≠ 0) : Fn_ Tryd.prog 21 #[.agg #[iv x, iv y, iv wi, iv he, .slice A n c]] W (fun v H => v = .tuple #[.agg #[flt 0, flt 0, flt 0, flt 0], iv (frErr x y wi he n)] ∧ H = []) := by
  refine Fn_.intro Tryd.func21 rfl rfl (by rfl) ?_
  refine CS.seq ?_
  refine CS.region ?_
  refine RS.box rfl (by rfl) (by rfl) ?_
  intro g1
  refine RS.alloc rfl ty38 ?_
  intro g2
  refine RS.q rfl (QO.assign) ?_
  refine RS.nil ?_
  refine thenC_n ?_
  refine CS.seq ?_
  refine CS.region ?_
  refine RS.alloc rfl ty38 ?_
  intro g4
  refine RS.nil ?_
  refine thenC_n ?_
  refine CS.seq ?_
  refine CS.seq ?_
  refine CS.region ?_
  refine RS.q rfl (QO.move) ?_
  refine RS.nil ?_
  refine thenC_n ?_
  refine CS.block ?_
  refine CS.loop (X := Unit) (3 :: 5 :: 6 :: 7 :: 8 :: 9 :: 10 :: 11 :: 12 :: 13 :: 14 :: 15 :: 16 :: 17 :: 18 :: 19 :: 20 :: 21 :: 22 :: 23 :: 24 :: 25 :: []) (fun z => [(8, iv 0)]) (fun z => [⟨g4, 38, [flt 0, flt 0, flt 0, flt 0]⟩, ⟨g2, 38, [flt 0, flt 0, flt 0, flt 0]⟩, ⟨g1, 34, [iv x, iv y, iv wi, iv he, .slice A n c]⟩]) (fun z => True) (fun z => 0) () trivial ?_ ?_ ?_
  · exact (by repeat (first | exact kn_nil | refine kn_cons (by rfl) ?_))
  · exact (by repeat (first | exact List.Sublist.refl _ | exact List.nil_sublist _ | refine List.Sublist.cons_cons _ ?_ | refine List.Sublist.cons _ ?_ | exact Sbp.refl | exact Sbp.nil | refine Sbp.cons (by repeat (first | exact Rem.head | apply Rem.tail)) ?_ | exact Sbp.app | refine Sbp.skip ?_))
  · intro z gj3 hz
    refine CS.seq ?_
    refine CS.region ?_
    refine RS.q rfl (QO.lss (by rfl) (by rfl)) ?_
    refine RS.nil ?_
    refine thenC_n ?_
    refine CS.seq ?_
    refine CS.condT (by rfl) rfl ?_
    refine CS.skip ?_
    refine thenC_n ?_
    refine CS.seq ?_
    refine CS.block ?_
    refine CS.seq ?_
    refine CS.region ?_
    refine RS.q rfl (QO.move) ?_
    refine RS.q rfl (QO.assign) ?_
    refine RS.nil ?_
    refine thenC_n ?_
    refine CS.seq ?_
    refine CS.region ?_
    first | (refine RS.q rfl (QO.loadB ty34 (by rfl) (by repeat (first | exact List.Mem.head _ | refine List.Mem.tail _ ?_)) (by rfl)) ?_) | (refine RS.q rfl (QO.loadA ty34 (by rfl) (by repeat (first | exact List.Mem.head _ | refine List.Mem.tail _ ?_)) (by rfl) (by rfl)) ?_) | (refine RS.q rfl (QO.loadOA ty34 (by rfl) (by assumption) (by rfl)) ?_)
    refine RS.q rfl (QO.move) ?_
    refine RS.call rfl (by rfl) ok78 (by rfl) (fun w ho => plane_err _ _ _ _ _ _ _ _ _ he0) ?_
    rintro _ _ ⟨rfl, rfl⟩
    refine RS.q rfl (QO.move) ?_
    refine RS.q rfl (QO.extract (by rfl) (by rfl)) ?_
    refine RS.q rfl (QO.extract (by rfl) (by rfl)) ?_
    refine RS.q rfl (QO.assign) ?_
    refine RS.q rfl (QO.assign) ?_
    refine RS.nil ?_
    refine thenC_n ?_
    refine CS.seq ?_
    refine CS.seq ?_
    refine CS.region ?_
    refine RS.q rfl (QO.move) ?_
    refine RS.qv rfl (QO.neq (by rfl) (by rfl)) (congrArg Value.bool (show (frErr x y wi he n != 0) = true from bne_iff_ne.2 he0)) ?_
    refine RS.nil ?_
    refine thenC_n ?_
    refine CS.condT (by rfl) rfl ?_
    refine CS.seq ?_
    refine CS.region ?_
    refine RS.q rfl (QO.buildA Tryd.underlying38 ty38 ty36 (by rfl)) ?_
    refine RS.q rfl (QO.move) ?_
    first | refine RS.storeB ty38 (by rfl) (by rfl) (by rfl) (by rfl) (by rfl) (by repeat (first | exact Upd.head | apply Upd.tail)) (by rfl) ?_ | refine RS.storeP ty38 (by rfl) (by rfl) (by rfl) (by rfl) (by rfl) (by repeat (first | exact Upd.head | apply Upd.tail)) (by rfl) ?_
    refine RS.q rfl (QO.assign) ?_
    refine RS.nil ?_
    refine thenC_n ?_
    refine CS.ret ?_
    refine thenC_r ?_
    refine blockC_r ?_
    refine thenC_r ?_
    refine loopQ_r ?_
    refine blockC_r ?_
    refine thenC_r ?_
    refine retQ.mk (H' := []) (.inr rfl) (RVs.cellA ty38 (by rfl) (by repeat (first | exact List.Mem.head _ | refine List.Mem.tail _ ?_)) (by rfl) (RVs.tmp (by rfl) RVs.nil)) (List.nil_sublist _) ?_
    exact ⟨rfl, rfl⟩

def tkE (n : Nat) : Int := if n < 4 then 2 else 0
def tkQ (xs : List Nat) (c : Nat) : Nat := if xs.length < 4 then 0 else xs.getD c 0
theorem tkQ_F {xs : List Nat} (h : xs.length < 4) (c : Nat) : tkQ xs c = 0 := if_pos h
theorem tkQ_T {xs : List Nat} (h : ¬ xs.length < 4) (c : Nat) : tkQ xs c = xs.getD c 0 := if_neg h

set_option maxRecDepth 100000 in
theorem take_err (A : Option Addr) (n c : Nat) (W : World) (h4 : n < 4) : Fn_ Tryd.prog 16 #[.slice A n c] W (fun v H => v = .tuple #[.agg #[flt 0, flt 0, flt 0, flt 0], iv 2] ∧ H = []) := by
  refine Fn_.intro Tryd.func16 rfl rfl (by rfl) ?_
  refine CS.seq ?_
  refine CS.region ?_
  refine RS.alloc rfl ty38 ?_
  intro g2
  refine RS.q rfl (QO.assign) ?_
  refine RS.nil ?_
  refine thenC_n ?_
  refine CS.seq ?_
  refine CS.seq ?_
  refine CS.region ?_
  refine RS.q rfl (QO.move) ?_
  refine RS.q rfl (QO.lenS Tryd.underlying32 (by rfl)) ?_
  refine RS.q rfl (QO.lss (by rfl) (by rfl)) ?_
  refine RS.nil ?_
  refine thenC_n ?_
  refine CS.condT (by rfl) (decide_eq_true (by omega)) ?_
  refine CS.seq ?_
  refine CS.region ?_
  refine RS.q rfl (QO.buildA Tryd.underlying38 ty38 ty36 (by rfl)) ?_
  first | refine RS.storeB ty38 (by rfl) (by rfl) (by rfl) (by rfl) (by rfl) (by repeat (first | exact Upd.head | apply Upd.tail)) (by rfl) ?_ | refine RS.storeP ty38 (by rfl) (by rfl) (by rfl) (by rfl) (by rfl) (by repeat (first | exact Upd.head | apply Upd.tail)) (by rfl) ?_
  refine RS.q rfl (QO.assign) ?_
  refine RS.nil ?_
  refine thenC_n ?_
  refine CS.ret ?_
  refine thenC_r ?_
  refine retQ.mk (H' := []) (.inr rfl) (RVs.cellA ty38 (by rfl) (by repeat (first | exact List.Mem.head _ | refine List.Mem.tail _ ?_)) (by rfl) (RVs.tmp (by rfl) RVs.nil)) (List.nil_sublist _) ?_
  exact ⟨rfl, rfl⟩

theorem takeU (A : Option Addr) (n c : Nat) (xs : List Nat) (W : World) (hn : xs.length = n) (hA : FS W A xs) (hc : n ≤ c) (hcm : c ≤ maxLen) : Fn_ Tryd.prog 16 #[.slice A n c] W (fun v H => v = .tuple #[pxv (tkQ xs), iv (tkE n)] ∧ H = []) := by
  by_cases h : n < 4
  · refine (take_err A n c W h).mono fun v H hv => ?_
    obtain ⟨rfl, rfl⟩ := hv
    have e1 : tkE n = 2 := if_pos h
    have e2 : tkQ xs = fun _ => 0 := funext fun c => tkQ_F (by omega) c
    rw [e1, e2]
    exact ⟨rfl, rfl⟩
  · refine (take_ A n c xs W hn hA (by omega) hc hcm).mono fun v H hv => ?_
    obtain ⟨rfl, rfl⟩ := hv
    have e1 : tkE n = 0 := if_neg h
    have e2 : tkQ xs = fun c => xs.getD c 0 := funext fun c => tkQ_T (by omega) c
    rw [e1, e2]
    exact ⟨rfl, rfl⟩
theorem cleanU (x y wi he : Int) (A : Option Addr) (n c : Nat) (xs : List Nat) (W : World) (hn : xs.length = n) (hA : FS W A xs) (hc : n ≤ c) (hcm : c ≤ maxLen) : Fn_ Tryd.prog 18 #[.agg #[iv x, iv y, iv wi, iv he, .slice A n c]] W (fun v H => FrR (frErr x y wi he n) x y wi he (xs.map cl) v H) := by
  by_cases h : frErr x y wi he n = 0
  · have h1 := frErr_ok h
    have hr := regErr_ok h1.1
    obtain ⟨u, rfl⟩ : ∃ u : Nat, wi = (u : Int) := ⟨wi.toNat, by omega⟩
    obtain ⟨s, rfl⟩ : ∃ s : Nat, he = (s : Int) := ⟨he.toNat, by omega⟩
    have hm : ((u * s : Nat) : Int) = (u : Int) * (s : Int) := Int.natCast_mul ..
    refine (clean_ x y u s A n c xs W hn hA (by omega) hc hcm (by omega) (by omega) (by omega) (by omega) h).mono fun v H hv => ?_
    obtain ⟨g, rfl, rfl⟩ := hv
    exact FrR.mk0 (by rw [List.length_map]; exact hn) (by omega) h
  · refine (clean_err x y wi he A n c W h).mono fun v H hv => ?_
    obtain ⟨rfl, rfl⟩ := hv
    exact FrR.mkE rfl h
theorem rcleanI (x y wi he : Int) (A : Option Addr) (n c : Nat) (xs : List Nat) (W : World) (hn : xs.length = n) (hA : FS W A xs) (hc : n ≤ c) (h : frErr x y wi he n = 0) : Fn_ Tryd.prog 23 #[.agg #[iv x, iv y, iv wi, iv he, .slice A n c]] W (fun v H => MadeR x y wi he (xs.map cl) v H) := by
  have h1 := frErr_ok h
  have hr := regErr_ok h1.1
  obtain ⟨u, rfl⟩ : ∃ u : Nat, wi = (u : Int) := ⟨wi.toNat, by omega⟩
  obtain ⟨s, rfl⟩ : ∃ s : Nat, he = (s : Int) := ⟨he.toNat, by omega⟩
  have hm : ((u * s : Nat) : Int) = (u : Int) * (s : Int) := Int.natCast_mul ..
  exact rclean x y u s A n c xs W hn hA (by omega) hc (by omega) (by omega) (by omega) (by omega)
theorem map_cl_cl (xs : List Nat) : (xs.map cl).map cl = xs.map cl := by
  rw [List.map_map]
  exact List.map_congr_left fun x _ => cl_cl x
theorem sameFW (err X Y wi he : Int) (vals vals2 : List Nat) (x y w_ h : Int) (A A' : Option Addr) (n c n' c' : Nat) (W : World) (h1 : FW err X Y wi he vals x y w_ h A n W) (e : err = 0) (hv : vals2 = vals) (hn' : vals2.length = n') (hA' : FS W A' vals2) :
    Fn_ Tryd.prog 22 #[.agg #[iv x, iv y, iv w_, iv h, .slice A n c], .agg #[iv X, iv Y, iv wi, iv he, .slice A' n' c']] W (fun v H => v = .bool true ∧ H = []) := by
  subst hv
  rcases h1 with h1 | ⟨_, rfl, rfl, rfl, rfl, rfl, h2, h3⟩
  · exact absurd e h1.1
  · exact sameTrue _ _ _ _ A A' _ n' c c' vals2 W rfl hn' h3 hA' h2
theorem sameU (err X Y wi he : Int) (xs : List Nat) (x y w_ h : Int) (A A' : Option Addr) (n c n' c' : Nat) (W : World) (h1 : FW err X Y wi he (xs.map cl) x y w_ h A n W) (e : err = 0) (hn' : xs.length = n') (hm : n' ≤ maxLen) (hA' : FS W A' xs) :
    Fn_ Tryd.prog 24 #[.agg #[iv X, iv Y, iv wi, iv he, .slice A' n' c'], .agg #[iv x, iv y, iv w_, iv h, .slice A n c]] W (fun v H => v = .bool true ∧ H = []) := by
  rcases h1 with h1 | ⟨_, rfl, rfl, rfl, rfl, rfl, h2, h3⟩
  · exact absurd e h1.1
  · refine (same_ _ _ _ _ _ _ _ _ A' A n' _ c' c xs (xs.map cl) W hn' rfl hA' h3 hm).mono fun v H hv => ?_
    obtain ⟨rfl, rfl⟩ := hv
    exact ⟨congrArg Value.bool (decide_eq_true ⟨rfl, (map_cl_cl xs).symm⟩), rfl⟩

set_option maxHeartbeats 4000000 in
set_option maxRecDepth 100000 in
theorem framesCheck (x y wi he : Int) (A : Option Addr) (n c : Nat) (xs : List Nat) (A2 : Option Addr) (n2 c2 : Nat) (ss : List Nat) (W : World) (bx : -9223372036854775808 ≤ x ∧ x ≤ 9223372036854775807) (hn : xs.length = n) (hA : FS W A xs) (hc : n ≤ c) (hcm : c ≤ maxLen) (hn2 : ss.length = n2) (hA2 : FS W A2 ss) (hc2 : n2 ≤ c2) (hcm2 : c2 ≤ maxLen) : Fn_ Tryd.prog 4 #[.agg #[iv x, iv y, iv wi, iv he, .slice A n c], .slice A2 n2 c2] W (fun v H => v = .bool true ∧ H = []) := by
  refine Fn_.intro Tryd.func4 rfl rfl (by rfl) ?_
  refine CS.seq ?_
  refine CS.region ?_
  refine RS.box rfl (by rfl) (by rfl) ?_
  intro g2
  refine RS.q rfl (QO.assign) ?_
  refine RS.nil ?_
  refine thenC_n ?_
  refine CS.seq ?_
  refine CS.seq ?_
  refine CS.region ?_
  refine RS.call rfl (by rfl) ok11 (by rfl) (fun w ho => landed _) ?_
  rintro _ _ ⟨rfl, rfl⟩
  refine RS.q rfl (QO.not (by rfl)) ?_
  refine RS.nil ?_
  refine thenC_n ?_
  refine CS.condF (by rfl) rfl ?_
  refine CS.skip ?_
  refine thenC_n ?_
  refine CS.seq ?_
  refine CS.region ?_
  first | (refine RS.q rfl (QO.loadB ty34 (by rfl) (by repeat (first | exact List.Mem.head _ | refine List.Mem.tail _ ?_)) (by rfl)) ?_) | (refine RS.q rfl (QO.loadA ty34 (by rfl) (by repeat (first | exact List.Mem.head _ | refine List.Mem.tail _ ?_)) (by rfl) (by rfl)) ?_) | (refine RS.q rfl (QO.loadOA ty34 (by rfl) (by assumption) (by rfl)) ?_)
  refine RS.call rfl (by rfl) ok14 (by rfl) (fun w ho => frameError x y wi he A n c _ bx) ?_
  rintro _ _ ⟨rfl, rfl⟩
  refine RS.q rfl (QO.assign) ?_
  refine RS.nil ?_
  refine thenC_n ?_
  refine CS.seq ?_
  refine CS.seq ?_
  refine CS.region ?_
  first | (refine RS.q rfl (QO.loadB ty34 (by rfl) (by repeat (first | exact List.Mem.head _ | refine List.Mem.tail _ ?_)) (by rfl)) ?_) | (refine RS.q rfl (QO.loadA ty34 (by rfl) (by repeat (first | exact List.Mem.head _ | refine List.Mem.tail _ ?_)) (by rfl) (by rfl)) ?_) | (refine RS.q rfl (QO.loadOA ty34 (by rfl) (by assumption) (by rfl)) ?_)
  refine RS.call rfl (by rfl) ok15 (by rfl) (fun w ho => check _ _ _ _ _ _ _ _) ?_
  rintro _ _ ⟨rfl, rfl⟩
  refine RS.q rfl (QO.move) ?_
  refine RS.qv rfl (QO.neq (by rfl) (by rfl)) (congrArg Value.bool (bne_self_eq_false _)) ?_
  refine RS.nil ?_
  refine thenC_n ?_
  refine CS.condF (by rfl) rfl ?_
  refine CS.skip ?_
  refine thenC_n ?_
  refine CS.seq ?_
  refine CS.region ?_
  refine RS.q rfl (QO.move) ?_
  refine RS.call rfl (by rfl) ok16 (by rfl) (fun w ho => takeU A2 n2 c2 ss _ hn2 (hA2.own ho) hc2 hcm2) ?_
  rintro _ _ ⟨rfl, rfl⟩
  refine RS.q rfl (QO.move) ?_
  refine RS.q rfl (QO.extract (by rfl) (by rfl)) ?_
  refine RS.q rfl (QO.extract (by rfl) (by rfl)) ?_
  refine RS.alloc rfl ty38 ?_
  intro g6
  first | refine RS.storeB ty38 (by rfl) (by rfl) (by rfl) (by rfl) (by rfl) (by repeat (first | exact Upd.head | apply Upd.tail)) (by rfl) ?_ | refine RS.storeP ty38 (by rfl) (by rfl) (by rfl) (by rfl) (by rfl) (by repeat (first | exact Upd.head | apply Upd.tail)) (by rfl) ?_
  refine RS.q rfl (QO.assign) ?_
  refine RS.nil ?_
  refine thenC_n ?_
  refine CS.cut (X := Unit) (4 :: 29 :: 30 :: 31 :: 32 :: 33 :: 34 :: 35 :: 36 :: 37 :: 38 :: 39 :: 40 :: 41 :: 42 :: 43 :: 44 :: 45 :: 46 :: 47 :: 48 :: 49 :: 50 :: 51 :: 52 :: 53 :: 54 :: 55 :: 56 :: 57 :: 58 :: 59 :: 60 :: 61 :: 62 :: 63 :: 64 :: 65 :: 66 :: 67 :: 68 :: 69 :: 70 :: 71 :: 72 :: 73 :: 74 :: 75 :: 76 :: 77 :: 78 :: []) (fun z => []) (fun z => [⟨g2, 34, [iv x, iv y, iv wi, iv he, .slice A n c]⟩]) (fun z => True) ?_ ?_
  · refine CS.block ?_
    refine CS.seq ?_
    refine CS.region ?_
    refine RS.q rfl (QO.move) ?_
    refine RS.q rfl (QO.lenS Tryd.underlying32 (by rfl)) ?_
    refine RS.q rfl (QO.lss (by rfl) (by rfl)) ?_
    refine RS.q rfl (QO.assign) ?_
    refine RS.nil ?_
    refine thenC_n ?_
    refine CS.cond (by rfl) (fun hb0 => ?_) (fun hb0 => ?_)
    · have hb0p := of_decide_eq_true hb0
      refine CS.seq ?_
      refine CS.region ?_
      refine RS.q rfl (QO.move) ?_
      refine RS.qv rfl (QO.neq (by rfl) (by rfl)) (congrArg Value.bool (show (tkE n2 != 2) = false from by rw [show tkE n2 = 2 from if_pos (by omega)]; rfl)) ?_
      refine RS.q rfl (QO.move) ?_
      refine RS.on (dj := 35) rfl (congrArg Value.bool rfl) ?_
      first | (refine RS.qv rfl (QO.loadB ty38 (by rfl) (by repeat (first | exact List.Mem.head _ | refine List.Mem.tail _ ?_)) (by rfl)) (show pxv (tkQ ss) = .agg #[flt 0, flt 0, flt 0, flt 0] from by rw [show tkQ ss = fun _ => 0 from funext fun c => tkQ_F (by omega) c]) ?_) | (refine RS.qv rfl (QO.loadA ty38 (by rfl) (by repeat (first | exact List.Mem.head _ | refine List.Mem.tail _ ?_)) (by rfl) (by rfl)) (show pxv (tkQ ss) = .agg #[flt 0, flt 0, flt 0, flt 0] from by rw [show tkQ ss = fun _ => 0 from funext fun c => tkQ_F (by omega) c]) ?_) | (refine RS.qv rfl (QO.loadOA ty38 (by rfl) (by assumption) (by rfl)) (show pxv (tkQ ss) = .agg #[flt 0, flt 0, flt 0, flt 0] from by rw [show tkQ ss = fun _ => 0 from funext fun c => tkQ_F (by omega) c]) ?_)
      refine RS.on (dj := 35) rfl (congrArg Value.bool rfl) ?_
      refine RS.q rfl (QO.buildA Tryd.underlying38 ty38 ty36 (by rfl)) ?_
      refine RS.on (dj := 35) rfl (congrArg Value.bool rfl) ?_
      refine RS.q rfl (QO.aneqC (by rfl) (by rfl) eqg38 eqz38) ?_
      refine RS.q rfl (QO.pickF (by rfl) rfl (by rfl)) ?_
      refine RS.nil ?_
      refine thenC_n ?_
      refine CS.condF (by rfl) rfl ?_
      refine CS.skip ?_
      refine blockC_n ?_
      refine cutQ_n (by intro t ht; repeat (first | with_reducible exact rfl | exact frame_puts ht (frame_mix ht) _ rfl | (refine frame_put rfl ht ?_) | (refine frame_puts ht ?_ _ rfl) | exact frame_mix ht | (refine frame_mix2 rfl ht ?_) | exact rfl)) ?_
      exact ⟨(), trivial, (by repeat (first | exact kn_nil | refine kn_cons (by rfl) ?_)), (by repeat (first | exact List.Sublist.refl _ | exact List.nil_sublist _ | refine List.Sublist.cons_cons _ ?_ | refine List.Sublist.cons _ ?_ | exact Sbp.refl | exact Sbp.nil | refine Sbp.cons (by repeat (first | exact Rem.head | apply Rem.tail)) ?_ | exact Sbp.app | refine Sbp.skip ?_))⟩
    · have hb0p := of_decide_eq_false hb0
      refine CS.seq ?_
      refine CS.draw 39 rfl (by kernel_rfl) (by kernel_rfl) ?_
      have h4 : ¬ ss.length < 4 := by omega
      obtain ⟨bS, oS, rfl, hcS⟩ := hA2 (by omega)
      refine RT.take (i := 0) rfl (by kernel_rfl) rfl (QO.move) ?_
      refine RT.takev (i := 1) rfl (by kernel_rfl) rfl (QO.neq (by rfl) (by rfl)) (congrArg Value.bool (show (tkE n2 != 0) = false from by rw [show tkE n2 = 0 from if_neg (by omega)]; rfl)) ?_
      refine RT.take (i := 2) rfl (by kernel_rfl) rfl (QO.move) ?_
      first | (refine RT.takeOn (i := 3) (dj := 43) rfl rfl (congrArg Value.bool rfl) (by kernel_rfl) rfl (QO.idxArr0 Tryd.underlying38 ty36 (by rfl) (by rfl) (by rfl) (by omega)) ?_) | (refine RT.takeOn (i := 3) (dj := 43) rfl rfl (congrArg Value.bool rfl) (by kernel_rfl) rfl (QO.idxArrn Tryd.underlying38 ty36 (by rfl) (by rfl) (by rfl) (by omega)) ?_) | (refine RT.takeOn (i := 3) (dj := 43) rfl rfl (congrArg Value.bool rfl) (by kernel_rfl) rfl (QO.idxArr Tryd.underlying38 ty36 (by rfl) (by rfl) (by omega) (by omega)) ?_)
      first | (refine RT.takeOn (i := 4) (dj := 43) rfl rfl (congrArg Value.bool rfl) (by kernel_rfl) rfl (QO.load ty36 (by rfl) (by repeat (first | exact List.Mem.head _ | refine List.Mem.tail _ ?_)) (by rfl)) ?_) | (refine RT.takeOn (i := 4) (dj := 43) rfl rfl (congrArg Value.bool rfl) (by kernel_rfl) rfl (QO.loadO ty36 (by rfl) (by assumption)) ?_) | (refine RT.takeOn (i := 4) (dj := 43) rfl rfl (congrArg Value.bool rfl) (by kernel_rfl) rfl (QO.load ty36 (by rfl) (by repeat (first | exact List.Mem.head _ | refine List.Mem.tail _ ?_)) (by assumption)) ?_)
      refine RT.takeOn (i := 5) (dj := 43) rfl rfl (congrArg Value.bool rfl) (by kernel_rfl) rfl (QO.move) ?_
      first | (refine RT.takeOn (i := 6) (dj := 43) rfl rfl (congrArg Value.bool rfl) (by kernel_rfl) rfl (QO.idx0 Tryd.underlying32 ty36 (by rfl) (by rfl) (by rfl) (by omega)) ?_) | (refine RT.takeOn (i := 6) (dj := 43) rfl rfl (congrArg Value.bool rfl) (by kernel_rfl) rfl (QO.idxn Tryd.underlying32 ty36 (by rfl) (by rfl) (by rfl) (by omega)) ?_) | (refine RT.takeOn (i := 6) (dj := 43) rfl rfl (congrArg Value.bool rfl) (by kernel_rfl) rfl (QO.idx1 Tryd.underlying32 ty36 (by rfl) (by rfl) (by omega) (by omega)) ?_)
      refine RT.takeOn (i := 7) (dj := 43) rfl rfl (congrArg Value.bool rfl) (by kernel_rfl) rfl (QO.loadO ty36 (by rfl) (hcS 0 _ (by rw [List.getElem?_eq_getElem (show 0 < ss.length by omega), getD_at]))) ?_
      refine RT.one (i := 8) (by kernel_rfl) rfl rfl ?_
      refine RS.on (dj := 43) rfl (congrArg Value.bool rfl) ?_
      refine RS.call rfl (by rfl) ok17 (by rfl) (fun w ho => exact_true _ _ (tkQ_T h4 0) _) ?_
      rintro _ _ ⟨rfl, rfl⟩
      refine RS.nil ⟨(by repeat (first | exact List.Sublist.refl _ | exact List.nil_sublist _ | refine List.Sublist.cons_cons _ ?_ | refine List.Sublist.cons _ ?_ | exact Sbp.refl | exact Sbp.nil | refine Sbp.cons (by repeat (first | exact Rem.head | apply Rem.tail)) ?_ | exact Sbp.app | refine Sbp.skip ?_)), ?_⟩
      refine RT.takeOn (i := 9) (dj := 43) rfl rfl (congrArg Value.bool rfl) (by kernel_rfl) rfl (QO.not (by rfl)) ?_
      refine RT.take (i := 10) rfl (by kernel_rfl) rfl (QO.pickF (by rfl) rfl (by rfl)) ?_
      refine RT.take (i := 11) rfl (by kernel_rfl) rfl (QO.move) ?_
      first | (refine RT.takeOn (i := 12) (dj := 52) rfl rfl (congrArg Value.bool rfl) (by kernel_rfl) rfl (QO.idxArr0 Tryd.underlying38 ty36 (by rfl) (by rfl) (by rfl) (by omega)) ?_) | (refine RT.takeOn (i := 12) (dj := 52) rfl rfl (congrArg Value.bool rfl) (by kernel_rfl) rfl (QO.idxArrn Tryd.underlying38 ty36 (by rfl) (by rfl) (by rfl) (by omega)) ?_) | (refine RT.takeOn (i := 12) (dj := 52) rfl rfl (congrArg Value.bool rfl) (by kernel_rfl) rfl (QO.idxArr Tryd.underlying38 ty36 (by rfl) (by rfl) (by omega) (by omega)) ?_)
      first | (refine RT.takeOn (i := 13) (dj := 52) rfl rfl (congrArg Value.bool rfl) (by kernel_rfl) rfl (QO.load ty36 (by rfl) (by repeat (first | exact List.Mem.head _ | refine List.Mem.tail _ ?_)) (by rfl)) ?_) | (refine RT.takeOn (i := 13) (dj := 52) rfl rfl (congrArg Value.bool rfl) (by kernel_rfl) rfl (QO.loadO ty36 (by rfl) (by assumption)) ?_) | (refine RT.takeOn (i := 13) (dj := 52) rfl rfl (congrArg Value.bool rfl) (by kernel_rfl) rfl (QO.load ty36 (by rfl) (by repeat (first | exact List.Mem.head _ | refine List.Mem.tail _ ?_)) (by assumption)) ?_)
      refine RT.takeOn (i := 14) (dj := 52) rfl rfl (congrArg Value.bool rfl) (by kernel_rfl) rfl (QO.move) ?_
      first | (refine RT.takeOn (i := 15) (dj := 52) rfl rfl (congrArg Value.bool rfl) (by kernel_rfl) rfl (QO.idx0 Tryd.underlying32 ty36 (by rfl) (by rfl) (by rfl) (by omega)) ?_) | (refine RT.takeOn (i := 15) (dj := 52) rfl rfl (congrArg Value.bool rfl) (by kernel_rfl) rfl (QO.idxn Tryd.underlying32 ty36 (by rfl) (by rfl) (by rfl) (by omega)) ?_) | (refine RT.takeOn (i := 15) (dj := 52) rfl rfl (congrArg Value.bool rfl) (by kernel_rfl) rfl (QO.idx1 Tryd.underlying32 ty36 (by rfl) (by rfl) (by omega) (by omega)) ?_)
      refine RT.takeOn (i := 16) (dj := 52) rfl rfl (congrArg Value.bool rfl) (by kernel_rfl) rfl (QO.loadO ty36 (by rfl) (hcS 1 _ (by rw [List.getElem?_eq_getElem (show 1 < ss.length by omega), getD_at]))) ?_
      refine RT.one (i := 17) (by kernel_rfl) rfl rfl ?_
      refine RS.on (dj := 52) rfl (congrArg Value.bool rfl) ?_
      refine RS.call rfl (by rfl) ok17 (by rfl) (fun w ho => exact_true _ _ (tkQ_T h4 1) _) ?_
      rintro _ _ ⟨rfl, rfl⟩
      refine RS.nil ⟨(by repeat (first | exact List.Sublist.refl _ | exact List.nil_sublist _ | refine List.Sublist.cons_cons _ ?_ | refine List.Sublist.cons _ ?_ | exact Sbp.refl | exact Sbp.nil | refine Sbp.cons (by repeat (first | exact Rem.head | apply Rem.tail)) ?_ | exact Sbp.app | refine Sbp.skip ?_)), ?_⟩
      refine RT.takeOn (i := 18) (dj := 52) rfl rfl (congrArg Value.bool rfl) (by kernel_rfl) rfl (QO.not (by rfl)) ?_
      refine RT.take (i := 19) rfl (by kernel_rfl) rfl (QO.pickF (by rfl) rfl (by rfl)) ?_
      refine RT.take (i := 20) rfl (by kernel_rfl) rfl (QO.move) ?_
      first | (refine RT.takeOn (i := 21) (dj := 61) rfl rfl (congrArg Value.bool rfl) (by kernel_rfl) rfl (QO.idxArr0 Tryd.underlying38 ty36 (by rfl) (by rfl) (by rfl) (by omega)) ?_) | (refine RT.takeOn (i := 21) (dj := 61) rfl rfl (congrArg Value.bool rfl) (by kernel_rfl) rfl (QO.idxArrn Tryd.underlying38 ty36 (by rfl) (by rfl) (by rfl) (by omega)) ?_) | (refine RT.takeOn (i := 21) (dj := 61) rfl rfl (congrArg Value.bool rfl) (by kernel_rfl) rfl (QO.idxArr Tryd.underlying38 ty36 (by rfl) (by rfl) (by omega) (by omega)) ?_)
      first | (refine RT.takeOn (i := 22) (dj := 61) rfl rfl (congrArg Value.bool rfl) (by kernel_rfl) rfl (QO.load ty36 (by rfl) (by repeat (first | exact List.Mem.head _ | refine List.Mem.tail _ ?_)) (by rfl)) ?_) | (refine RT.takeOn (i := 22) (dj := 61) rfl rfl (congrArg Value.bool rfl) (by kernel_rfl) rfl (QO.loadO ty36 (by rfl) (by assumption)) ?_) | (refine RT.takeOn (i := 22) (dj := 61) rfl rfl (congrArg Value.bool rfl) (by kernel_rfl) rfl (QO.load ty36 (by rfl) (by repeat (first | exact List.Mem.head _ | refine List.Mem.tail _ ?_)) (by assumption)) ?_)
      refine RT.takeOn (i := 23) (dj := 61) rfl rfl (congrArg Value.bool rfl) (by kernel_rfl) rfl (QO.move) ?_
      first | (refine RT.takeOn (i := 24) (dj := 61) rfl rfl (congrArg Value.bool rfl) (by kernel_rfl) rfl (QO.idx0 Tryd.underlying32 ty36 (by rfl) (by rfl) (by rfl) (by omega)) ?_) | (refine RT.takeOn (i := 24) (dj := 61) rfl rfl (congrArg Value.bool rfl) (by kernel_rfl) rfl (QO.idxn Tryd.underlying32 ty36 (by rfl) (by rfl) (by rfl) (by omega)) ?_) | (refine RT.takeOn (i := 24) (dj := 61) rfl rfl (congrArg Value.bool rfl) (by kernel_rfl) rfl (QO.idx1 Tryd.underlying32 ty36 (by rfl) (by rfl) (by omega) (by omega)) ?_)
      refine RT.takeOn (i := 25) (dj := 61) rfl rfl (congrArg Value.bool rfl) (by kernel_rfl) rfl (QO.loadO ty36 (by rfl) (hcS 2 _ (by rw [List.getElem?_eq_getElem (show 2 < ss.length by omega), getD_at]))) ?_
      refine RT.one (i := 26) (by kernel_rfl) rfl rfl ?_
      refine RS.on (dj := 61) rfl (congrArg Value.bool rfl) ?_
      refine RS.call rfl (by rfl) ok17 (by rfl) (fun w ho => exact_true _ _ (tkQ_T h4 2) _) ?_
      rintro _ _ ⟨rfl, rfl⟩
      refine RS.nil ⟨(by repeat (first | exact List.Sublist.refl _ | exact List.nil_sublist _ | refine List.Sublist.cons_cons _ ?_ | refine List.Sublist.cons _ ?_ | exact Sbp.refl | exact Sbp.nil | refine Sbp.cons (by repeat (first | exact Rem.head | apply Rem.tail)) ?_ | exact Sbp.app | refine Sbp.skip ?_)), ?_⟩
      refine RT.takeOn (i := 27) (dj := 61) rfl rfl (congrArg Value.bool rfl) (by kernel_rfl) rfl (QO.not (by rfl)) ?_
      refine RT.take (i := 28) rfl (by kernel_rfl) rfl (QO.pickF (by rfl) rfl (by rfl)) ?_
      refine RT.take (i := 29) rfl (by kernel_rfl) rfl (QO.move) ?_
      first | (refine RT.takeOn (i := 30) (dj := 70) rfl rfl (congrArg Value.bool rfl) (by kernel_rfl) rfl (QO.idxArr0 Tryd.underlying38 ty36 (by rfl) (by rfl) (by rfl) (by omega)) ?_) | (refine RT.takeOn (i := 30) (dj := 70) rfl rfl (congrArg Value.bool rfl) (by kernel_rfl) rfl (QO.idxArrn Tryd.underlying38 ty36 (by rfl) (by rfl) (by rfl) (by omega)) ?_) | (refine RT.takeOn (i := 30) (dj := 70) rfl rfl (congrArg Value.bool rfl) (by kernel_rfl) rfl (QO.idxArr Tryd.underlying38 ty36 (by rfl) (by rfl) (by omega) (by omega)) ?_)
      first | (refine RT.takeOn (i := 31) (dj := 70) rfl rfl (congrArg Value.bool rfl) (by kernel_rfl) rfl (QO.load ty36 (by rfl) (by repeat (first | exact List.Mem.head _ | refine List.Mem.tail _ ?_)) (by rfl)) ?_) | (refine RT.takeOn (i := 31) (dj := 70) rfl rfl (congrArg Value.bool rfl) (by kernel_rfl) rfl (QO.loadO ty36 (by rfl) (by assumption)) ?_) | (refine RT.takeOn (i := 31) (dj := 70) rfl rfl (congrArg Value.bool rfl) (by kernel_rfl) rfl (QO.load ty36 (by rfl) (by repeat (first | exact List.Mem.head _ | refine List.Mem.tail _ ?_)) (by assumption)) ?_)
      refine RT.takeOn (i := 32) (dj := 70) rfl rfl (congrArg Value.bool rfl) (by kernel_rfl) rfl (QO.move) ?_
      first | (refine RT.takeOn (i := 33) (dj := 70) rfl rfl (congrArg Value.bool rfl) (by kernel_rfl) rfl (QO.idx0 Tryd.underlying32 ty36 (by rfl) (by rfl) (by rfl) (by omega)) ?_) | (refine RT.takeOn (i := 33) (dj := 70) rfl rfl (congrArg Value.bool rfl) (by kernel_rfl) rfl (QO.idxn Tryd.underlying32 ty36 (by rfl) (by rfl) (by rfl) (by omega)) ?_) | (refine RT.takeOn (i := 33) (dj := 70) rfl rfl (congrArg Value.bool rfl) (by kernel_rfl) rfl (QO.idx1 Tryd.underlying32 ty36 (by rfl) (by rfl) (by omega) (by omega)) ?_)
      refine RT.takeOn (i := 34) (dj := 70) rfl rfl (congrArg Value.bool rfl) (by kernel_rfl) rfl (QO.loadO ty36 (by rfl) (hcS 3 _ (by rw [List.getElem?_eq_getElem (show 3 < ss.length by omega), getD_at]))) ?_
      refine RT.one (i := 35) (by kernel_rfl) rfl rfl ?_
      refine RS.on (dj := 70) rfl (congrArg Value.bool rfl) ?_
      refine RS.call rfl (by rfl) ok17 (by rfl) (fun w ho => exact_true _ _ (tkQ_T h4 3) _) ?_
      rintro _ _ ⟨rfl, rfl⟩
      refine RS.nil ⟨(by repeat (first | exact List.Sublist.refl _ | exact List.nil_sublist _ | refine List.Sublist.cons_cons _ ?_ | refine List.Sublist.cons _ ?_ | exact Sbp.refl | exact Sbp.nil | refine Sbp.cons (by repeat (first | exact Rem.head | apply Rem.tail)) ?_ | exact Sbp.app | refine Sbp.skip ?_)), ?_⟩
      refine RT.takeOn (i := 36) (dj := 70) rfl rfl (congrArg Value.bool rfl) (by kernel_rfl) rfl (QO.not (by rfl)) ?_
      refine RT.take (i := 37) rfl (by kernel_rfl) rfl (QO.pickF (by rfl) rfl (by rfl)) ?_
      refine RT.take (i := 38) rfl (by kernel_rfl) rfl (QO.assign) ?_
      refine RT.done (by kernel_rfl) ?_
      refine thenC_n ?_
      refine CS.condF (by rfl) rfl ?_
      refine CS.skip ?_
      refine blockC_n ?_
      refine cutQ_n (by intro t ht; repeat (first | with_reducible exact rfl | exact frame_puts ht (frame_mix ht) _ rfl | (refine frame_put rfl ht ?_) | (refine frame_puts ht ?_ _ rfl) | exact frame_mix ht | (refine frame_mix2 rfl ht ?_) | exact rfl)) ?_
      exact ⟨(), trivial, (by repeat (first | exact kn_nil | refine kn_cons (by rfl) ?_)), (by repeat (first | exact List.Sublist.refl _ | exact List.nil_sublist _ | refine List.Sublist.cons_cons _ ?_ | refine List.Sublist.cons _ ?_ | exact Sbp.refl | exact Sbp.nil | refine Sbp.cons (by repeat (first | exact Rem.head | apply Rem.tail)) ?_ | exact Sbp.app | refine Sbp.skip ?_))⟩
  · intro z gj hz
    refine CS.seq ?_
    refine CS.region ?_
    first | (refine RS.q rfl (QO.loadB ty34 (by rfl) (by repeat (first | exact List.Mem.head _ | refine List.Mem.tail _ ?_)) (by rfl)) ?_) | (refine RS.q rfl (QO.loadA ty34 (by rfl) (by repeat (first | exact List.Mem.head _ | refine List.Mem.tail _ ?_)) (by rfl) (by rfl)) ?_) | (refine RS.q rfl (QO.loadOA ty34 (by rfl) (by assumption) (by rfl)) ?_)
    refine RS.call rfl (by rfl) ok18 (by rfl) (fun w ho => cleanU x y wi he A n c xs _ hn (hA.own ho) hc hcm) ?_
    intro v81 H81 h81
    have k81 := h81.any
    clear h81
    obtain ⟨u_a, v_a, w_a, h_a, A_a, n_a, c_a, rfl, hva⟩ := k81
    refine RS.perm List.perm_append_comm ?_
    refine RS.q rfl (QO.move) ?_
    refine RS.q rfl (QO.extract (by rfl) (by rfl)) ?_
    refine RS.q rfl (QO.extract (by rfl) (by rfl)) ?_
    refine RS.alloc rfl ty34 ?_
    intro g8
    first | refine RS.storeB ty34 (by rfl) (by rfl) (by rfl) (by rfl) (by rfl) (by repeat (first | exact Upd.head | apply Upd.tail)) (by rfl) ?_ | refine RS.storeP ty34 (by rfl) (by rfl) (by rfl) (by rfl) (by rfl) (by repeat (first | exact Upd.head | apply Upd.tail)) (by rfl) ?_
    refine RS.q rfl (QO.assign) ?_
    refine RS.nil ?_
    refine thenC_n ?_
    refine CS.seq ?_
    refine CS.seq ?_
    refine CS.region ?_
    refine RS.q rfl (QO.move) ?_
    refine RS.q rfl (QO.neq (by rfl) (by rfl)) ?_
    refine RS.nil ?_
    refine thenC_n ?_
    refine CS.cond (by rfl) (fun hb1 => ?_) (fun hb1 => ?_)
    · have hb1p := bne_iff_ne.1 hb1
      refine CS.seq ?_
      refine CS.region ?_
      have hz1 := hb1p
      first | (refine RS.q rfl (QO.loadB ty34 (by rfl) (by repeat (first | exact List.Mem.head _ | refine List.Mem.tail _ ?_)) (by rfl)) ?_) | (refine RS.q rfl (QO.loadA ty34 (by rfl) (by repeat (first | exact List.Mem.head _ | refine List.Mem.tail _ ?_)) (by rfl) (by rfl)) ?_) | (refine RS.q rfl (QO.loadOA ty34 (by rfl) (by assumption) (by rfl)) ?_)
      refine RS.call rfl (by rfl) ok19 (by rfl) (fun w ho => at_err 0 0 x y wi he A n c _ hz1) ?_
      rintro _ _ ⟨rfl, rfl⟩
      refine RS.q rfl (QO.move) ?_
      refine RS.q rfl (QO.extract (by rfl) (by rfl)) ?_
      refine RS.q rfl (QO.extract (by rfl) (by rfl)) ?_
      refine RS.alloc rfl ty38 ?_
      intro g10
      first | refine RS.storeB ty38 (by rfl) (by rfl) (by rfl) (by rfl) (by rfl) (by repeat (first | exact Upd.head | apply Upd.tail)) (by rfl) ?_ | refine RS.storeP ty38 (by rfl) (by rfl) (by rfl) (by rfl) (by rfl) (by repeat (first | exact Upd.head | apply Upd.tail)) (by rfl) ?_
      refine RS.q rfl (QO.assign) ?_
      refine RS.nil ?_
      refine thenC_n ?_
      refine CS.seq ?_
      refine CS.region ?_
      first | (refine RS.q rfl (QO.loadB ty34 (by rfl) (by repeat (first | exact List.Mem.head _ | refine List.Mem.tail _ ?_)) (by rfl)) ?_) | (refine RS.q rfl (QO.loadA ty34 (by rfl) (by repeat (first | exact List.Mem.head _ | refine List.Mem.tail _ ?_)) (by rfl) (by rfl)) ?_) | (refine RS.q rfl (QO.loadOA ty34 (by rfl) (by assumption) (by rfl)) ?_)
      refine RS.call rfl (by rfl) ok20 (by rfl) (fun w ho => print_err x y wi he A n c _ hz1) ?_
      rintro _ _ ⟨rfl, rfl⟩
      refine RS.q rfl (QO.move) ?_
      refine RS.q rfl (QO.extract (by rfl) (by rfl)) ?_
      refine RS.q rfl (QO.extract (by rfl) (by rfl)) ?_
      refine RS.q rfl (QO.assign) ?_
      refine RS.q rfl (QO.assign) ?_
      refine RS.nil ?_
      refine thenC_n ?_
      refine CS.seq ?_
      refine CS.region ?_
      first | (refine RS.q rfl (QO.loadB ty34 (by rfl) (by repeat (first | exact List.Mem.head _ | refine List.Mem.tail _ ?_)) (by rfl)) ?_) | (refine RS.q rfl (QO.loadA ty34 (by rfl) (by repeat (first | exact List.Mem.head _ | refine List.Mem.tail _ ?_)) (by rfl) (by rfl)) ?_) | (refine RS.q rfl (QO.loadOA ty34 (by rfl) (by assumption) (by rfl)) ?_)
      refine RS.call rfl (by rfl) ok21 (by rfl) (fun w ho => total_err x y wi he A n c _ hz1) ?_
      rintro _ _ ⟨rfl, rfl⟩
      refine RS.q rfl (QO.move) ?_
      refine RS.q rfl (QO.extract (by rfl) (by rfl)) ?_
      refine RS.q rfl (QO.extract (by rfl) (by rfl)) ?_
      refine RS.alloc rfl ty38 ?_
      intro g14
      first | refine RS.storeB ty38 (by rfl) (by rfl) (by rfl) (by rfl) (by rfl) (by repeat (first | exact Upd.head | apply Upd.tail)) (by rfl) ?_ | refine RS.storeP ty38 (by rfl) (by rfl) (by rfl) (by rfl) (by rfl) (by repeat (first | exact Upd.head | apply Upd.tail)) (by rfl) ?_
      refine RS.q rfl (QO.assign) ?_
      refine RS.nil ?_
      refine thenC_n ?_
      refine CS.seq ?_
      refine CS.region ?_
      refine RS.q rfl (QO.move) ?_
      refine RS.q rfl (QO.move) ?_
      refine RS.qv rfl (QO.eql (by rfl) (by rfl)) (congrArg Value.bool (beq_self_eq_true _)) ?_
      refine RS.q rfl (QO.move) ?_
      refine RS.on (dj := 104) rfl (congrArg Value.bool rfl) ?_
      refine RS.q rfl (QO.move) ?_
      refine RS.on (dj := 104) rfl (congrArg Value.bool rfl) ?_
      refine RS.q rfl (QO.move) ?_
      refine RS.on (dj := 104) rfl (congrArg Value.bool rfl) ?_
      refine RS.qv rfl (QO.eql (by rfl) (by rfl)) (congrArg Value.bool (beq_self_eq_true _)) ?_
      refine RS.q rfl (QO.pickT (by rfl) rfl (by rfl)) ?_
      refine RS.q rfl (QO.move) ?_
      refine RS.on (dj := 109) rfl (congrArg Value.bool rfl) ?_
      refine RS.q rfl (QO.move) ?_
      refine RS.on (dj := 109) rfl (congrArg Value.bool rfl) ?_
      refine RS.q rfl (QO.move) ?_
      refine RS.on (dj := 109) rfl (congrArg Value.bool rfl) ?_
      refine RS.qv rfl (QO.eql (by rfl) (by rfl)) (congrArg Value.bool (beq_self_eq_true _)) ?_
      refine RS.q rfl (QO.pickT (by rfl) rfl (by rfl)) ?_
      refine RS.q rfl (QO.move) ?_
      refine RS.on (dj := 114) rfl (congrArg Value.bool rfl) ?_
      refine RS.q rfl (QO.move) ?_
      refine RS.on (dj := 114) rfl (congrArg Value.bool rfl) ?_
      refine RS.q rfl (QO.move) ?_
      refine RS.on (dj := 114) rfl (congrArg Value.bool rfl) ?_
      refine RS.qv rfl (QO.eql (by rfl) (by rfl)) (congrArg Value.bool (beq_self_eq_true _)) ?_
      refine RS.q rfl (QO.pickT (by rfl) rfl (by rfl)) ?_
      refine RS.q rfl (QO.assign) ?_
      refine RS.nil ?_
      refine thenC_n ?_
      refine CS.ret ?_
      refine thenC_r ?_
      refine retQ.mk (H' := []) (.inr rfl) (RVs.tmp (by rfl) RVs.nil) (List.nil_sublist _) ?_
      exact ⟨rfl, rfl⟩
    · have hb1p := of_bne_false hb1
      refine CS.skip ?_
      refine thenC_n ?_
      refine CS.seq ?_
      refine CS.draw 14 rfl (by kernel_rfl) (by kernel_rfl) ?_
      have hz0 := of_bne_false hb1
      refine RT.take (i := 0) rfl (by kernel_rfl) rfl (QO.move) ?_
      refine RT.takev (i := 1) rfl (by kernel_rfl) rfl (QO.eql (by rfl) (by rfl)) (congrArg Value.bool (show (frErr x y wi he n == 0) = true from by rw [hz0]; rfl)) ?_
      refine RT.take (i := 2) rfl (by kernel_rfl) rfl (QO.move) ?_
      first | (refine RT.takeOn (i := 3) (dj := 121) rfl rfl (congrArg Value.bool rfl) (by kernel_rfl) rfl (QO.loadB ty34 (by rfl) (by repeat (first | exact List.Mem.head _ | refine List.Mem.tail _ ?_)) (by rfl)) ?_) | (refine RT.takeOn (i := 3) (dj := 121) rfl rfl (congrArg Value.bool rfl) (by kernel_rfl) rfl (QO.loadA ty34 (by rfl) (by repeat (first | exact List.Mem.head _ | refine List.Mem.tail _ ?_)) (by rfl) (by rfl)) ?_) | (refine RT.takeOn (i := 3) (dj := 121) rfl rfl (congrArg Value.bool rfl) (by kernel_rfl) rfl (QO.loadOA ty34 (by rfl) (by assumption) (by rfl)) ?_)
      first | (refine RT.takeOn (i := 4) (dj := 121) rfl rfl (congrArg Value.bool rfl) (by kernel_rfl) rfl (QO.loadB ty34 (by rfl) (by repeat (first | exact List.Mem.head _ | refine List.Mem.tail _ ?_)) (by rfl)) ?_) | (refine RT.takeOn (i := 4) (dj := 121) rfl rfl (congrArg Value.bool rfl) (by kernel_rfl) rfl (QO.loadA ty34 (by rfl) (by repeat (first | exact List.Mem.head _ | refine List.Mem.tail _ ?_)) (by rfl) (by rfl)) ?_) | (refine RT.takeOn (i := 4) (dj := 121) rfl rfl (congrArg Value.bool rfl) (by kernel_rfl) rfl (QO.loadOA ty34 (by rfl) (by assumption) (by rfl)) ?_)
      refine RT.one (i := 5) (by kernel_rfl) rfl rfl ?_
      refine RS.on (dj := 121) rfl (congrArg Value.bool rfl) ?_
      refine RS.call rfl (by rfl) ok23 (by rfl) (fun w ho => rcleanI x y wi he A n c xs _ hn (hA.own ho) hc hz0) ?_
      intro v124 H124 h124
      obtain ⟨gm, cm, jm, rfl, rfl, hcm1, hcx1⟩ := h124
      refine RS.nil ⟨(by repeat (first | exact List.Sublist.refl _ | exact List.nil_sublist _ | refine List.Sublist.cons_cons _ ?_ | refine List.Sublist.cons _ ?_ | exact Sbp.refl | exact Sbp.nil | refine Sbp.cons (by repeat (first | exact Rem.head | apply Rem.tail)) ?_ | exact Sbp.app | refine Sbp.skip ?_)), ?_⟩
      refine RT.one (i := 6) (by kernel_rfl) rfl rfl ?_
      refine RS.on (dj := 121) rfl (congrArg Value.bool rfl) ?_
      refine RS.call rfl (by rfl) ok22 (by rfl) (fun w ho => sameFW (frErr x y wi he n) x y wi he (xs.map cl) (xs.map cl) _ _ _ _ _ _ _ _ _ _ w (hva.fw ho (fun q hq => by simp [hq])) hz0 rfl (by rfl) (FS.blk ho (by repeat (first | exact List.Mem.head _ | refine List.Mem.tail _ ?_)))) ?_
      rintro _ _ ⟨rfl, rfl⟩
      refine RS.nil ⟨(by repeat (first | exact List.Sublist.refl _ | exact List.nil_sublist _ | refine List.Sublist.cons_cons _ ?_ | refine List.Sublist.cons _ ?_ | exact Sbp.refl | exact Sbp.nil | refine Sbp.cons (by repeat (first | exact Rem.head | apply Rem.tail)) ?_ | exact Sbp.app | refine Sbp.skip ?_)), ?_⟩
      refine RT.take (i := 7) rfl (by kernel_rfl) rfl (QO.pickT (by rfl) rfl (by rfl)) ?_
      refine RT.take (i := 8) rfl (by kernel_rfl) rfl (QO.move) ?_
      first | (refine RT.takeOn (i := 9) (dj := 127) rfl rfl (congrArg Value.bool rfl) (by kernel_rfl) rfl (QO.loadB ty34 (by rfl) (by repeat (first | exact List.Mem.head _ | refine List.Mem.tail _ ?_)) (by rfl)) ?_) | (refine RT.takeOn (i := 9) (dj := 127) rfl rfl (congrArg Value.bool rfl) (by kernel_rfl) rfl (QO.loadA ty34 (by rfl) (by repeat (first | exact List.Mem.head _ | refine List.Mem.tail _ ?_)) (by rfl) (by rfl)) ?_) | (refine RT.takeOn (i := 9) (dj := 127) rfl rfl (congrArg Value.bool rfl) (by kernel_rfl) rfl (QO.loadOA ty34 (by rfl) (by assumption) (by rfl)) ?_)
      first | (refine RT.takeOn (i := 10) (dj := 127) rfl rfl (congrArg Value.bool rfl) (by kernel_rfl) rfl (QO.loadB ty34 (by rfl) (by repeat (first | exact List.Mem.head _ | refine List.Mem.tail _ ?_)) (by rfl)) ?_) | (refine RT.takeOn (i := 10) (dj := 127) rfl rfl (congrArg Value.bool rfl) (by kernel_rfl) rfl (QO.loadA ty34 (by rfl) (by repeat (first | exact List.Mem.head _ | refine List.Mem.tail _ ?_)) (by rfl) (by rfl)) ?_) | (refine RT.takeOn (i := 10) (dj := 127) rfl rfl (congrArg Value.bool rfl) (by kernel_rfl) rfl (QO.loadOA ty34 (by rfl) (by assumption) (by rfl)) ?_)
      refine RT.one (i := 11) (by kernel_rfl) rfl rfl ?_
      refine RS.on (dj := 127) rfl (congrArg Value.bool rfl) ?_
      refine RS.call rfl (by rfl) ok24 (by rfl) (fun w ho => sameU (frErr x y wi he n) x y wi he xs _ _ _ _ _ A _ _ n c w (hva.fw ho (fun q hq => by simp [hq])) hz0 hn (Nat.le_trans hc hcm) (hA.own ho)) ?_
      rintro _ _ ⟨rfl, rfl⟩
      refine RS.nil ⟨(by repeat (first | exact List.Sublist.refl _ | exact List.nil_sublist _ | refine List.Sublist.cons_cons _ ?_ | refine List.Sublist.cons _ ?_ | exact Sbp.refl | exact Sbp.nil | refine Sbp.cons (by repeat (first | exact Rem.head | apply Rem.tail)) ?_ | exact Sbp.app | refine Sbp.skip ?_)), ?_⟩
      refine RT.take (i := 12) rfl (by kernel_rfl) rfl (QO.pickT (by rfl) rfl (by rfl)) ?_
      refine RT.take (i := 13) rfl (by kernel_rfl) rfl (QO.assign) ?_
      refine RT.done (by kernel_rfl) ?_
      refine thenC_n ?_
      refine CS.ret ?_
      refine retQ.mk (H' := []) (.inr rfl) (RVs.tmp (by rfl) RVs.nil) (List.nil_sublist _) ?_
      exact ⟨rfl, rfl⟩

end Go.Proofs.YtapcgokcfmklbaaDoor
