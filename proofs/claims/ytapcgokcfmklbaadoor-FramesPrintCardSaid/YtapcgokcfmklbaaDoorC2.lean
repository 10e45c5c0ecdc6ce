/-
  Contracts: fit, the checks of a frame, planes and their sums. Conditions: as each theorem says.
-/
import Derived.Test.YtapcgokcfmklbaaDoorC1
namespace Go.Proofs.YtapcgokcfmklbaaDoor
open Go Go.Proofs Go.RowKit

theorem ty31 : tyChk Tryd.prog 31 = some ([.int .i64 0, .int .i64 0, .int .i64 0, .int .i64 0], true, 32) := by kernel_rfl
theorem ty32 : tyChk Tryd.prog 32 = some ([.slice none 0 0], false, 24) := by kernel_rfl
theorem ty34 : tyChk Tryd.prog 34 = some ([.int .i64 0, .int .i64 0, .int .i64 0, .int .i64 0, .slice none 0 0], true, 56) := by kernel_rfl
theorem ty36 : tyChk Tryd.prog 36 = some ([.float .f32 0], false, 4) := by kernel_rfl
theorem ty38 : tyChk Tryd.prog 38 = some ([.float .f32 0, .float .f32 0, .float .f32 0, .float .f32 0], true, 16) := by kernel_rfl
theorem ty128 : tyChk Tryd.prog 128 = some ([.nilFunc], false, 8) := by kernel_rfl
theorem fo34_0 : fldOff Tryd.prog 34 0 = some (0, 31) := by kernel_rfl
theorem fo34_1 : fldOff Tryd.prog 34 1 = some (4, 32) := by kernel_rfl
theorem ok11 : callOK Tryd.prog 11 = true := by kernel_rfl
theorem ok56 : callOK Tryd.prog 56 = true := by kernel_rfl
theorem ok21 : callOK Tryd.prog 21 = true := by kernel_rfl
theorem ok17 : callOK Tryd.prog 17 = true := by kernel_rfl
theorem ok78 : callOK Tryd.prog 78 = true := by kernel_rfl
theorem ok69 : callOK Tryd.prog 69 = true := by kernel_rfl
theorem ok161 : callOK Tryd.prog 161 = true := by kernel_rfl
theorem ok79 : callOK Tryd.prog 79 = true := by kernel_rfl
theorem ok15 : callOK Tryd.prog 15 = true := by kernel_rfl
theorem ok134 : callOK Tryd.prog 134 = true := by kernel_rfl

set_option maxRecDepth 100000 in
theorem fit (x y wi he : Int) (A : Option Addr) (n c : Nat) (xs : List Nat) (W : World) (hn : xs.length = n) (hA : FS W A xs) (hlx : n ≤ maxLen) : Fn_ Tryd.prog 56 #[.agg #[iv x, iv y, iv wi, iv he, .slice A n c]] W (fun v H => ∃ g, v = .agg #[iv (clamp x), iv (clamp y), iv (1 + and7 wi), iv (1 + and7 he), .slice (some ⟨g, 0, none⟩) (fitN wi he) (fitN wi he)] ∧ H = [⟨g, 36, (fitV xs wi he).map flt⟩]) := by
  subst hn
  have ha1 := and7_bd wi
  have ha2 := and7_bd he
  have ha3 := mul_bd (a := 4 * (1 + and7 wi)) (b := 1 + and7 he) (by omega) (by omega) (by omega) (by omega)
  have hN : ((fitN wi he : Nat) : Int) = 4 * (1 + and7 wi) * (1 + and7 he) := by unfold fitN; omega
  unfold maxLen at hlx
  refine Fn_.intro Tryd.func56 rfl rfl (by rfl) ?_
  refine CS.seq ?_
  refine CS.region ?_
  refine RS.box rfl (by rfl) (by rfl) ?_
  intro g1
  refine RS.alloc rfl ty34 ?_
  intro g2
  refine RS.nil ?_
  refine thenC_n ?_
  refine CS.seq ?_
  refine CS.region ?_
  refine RS.q rfl (QO.fieldAddr fo34_0 (by rfl)) ?_
  refine RS.q rfl (QO.fieldAddr fo31_2 (by rfl)) ?_
  first | (refine RS.q rfl (QO.load ty3 (by rfl) (by repeat (first | exact List.Mem.head _ | refine List.Mem.tail _ ?_)) (by rfl)) ?_) | (refine RS.q rfl (QO.loadO ty3 (by rfl) (by assumption)) ?_) | (refine RS.q rfl (QO.load ty3 (by rfl) (by repeat (first | exact List.Mem.head _ | refine List.Mem.tail _ ?_)) (by assumption)) ?_)
  refine RS.q rfl (QO.and7 (by rfl) (by rfl)) ?_
  first | (refine RS.q rfl (QO.add (by rfl) (by rfl) (by omega) (by omega)) ?_) | (refine RS.q rfl (QO.ibin (by rfl) (by rfl) trivial) ?_)
  refine RS.q rfl (QO.fieldAddr fo34_0 (by rfl)) ?_
  refine RS.q rfl (QO.fieldAddr fo31_3 (by rfl)) ?_
  first | (refine RS.q rfl (QO.load ty3 (by rfl) (by repeat (first | exact List.Mem.head _ | refine List.Mem.tail _ ?_)) (by rfl)) ?_) | (refine RS.q rfl (QO.loadO ty3 (by rfl) (by assumption)) ?_) | (refine RS.q rfl (QO.load ty3 (by rfl) (by repeat (first | exact List.Mem.head _ | refine List.Mem.tail _ ?_)) (by assumption)) ?_)
  refine RS.q rfl (QO.and7 (by rfl) (by rfl)) ?_
  first | (refine RS.q rfl (QO.add (by rfl) (by rfl) (by omega) (by omega)) ?_) | (refine RS.q rfl (QO.ibin (by rfl) (by rfl) trivial) ?_)
  refine RS.q rfl (QO.fieldAddr fo34_0 (by rfl)) ?_
  refine RS.q rfl (QO.fieldAddr fo31_2 (by rfl)) ?_
  refine RS.store1 ty3 rfl (by rfl) (by rfl) (by rfl) (by repeat (first | exact Upd.head | apply Upd.tail)) (by first | (simp; done) | (simp; omega) | omega) ?_
  refine RS.q rfl (QO.fieldAddr fo34_0 (by rfl)) ?_
  refine RS.q rfl (QO.fieldAddr fo31_3 (by rfl)) ?_
  refine RS.store1 ty3 rfl (by rfl) (by rfl) (by rfl) (by repeat (first | exact Upd.head | apply Upd.tail)) (by first | (simp; done) | (simp; omega) | omega) ?_
  refine RS.nil ?_
  refine thenC_n ?_
  refine CS.seq ?_
  refine CS.region ?_
  refine RS.q rfl (QO.fieldAddr fo34_0 (by rfl)) ?_
  refine RS.q rfl (QO.fieldAddr fo31_0 (by rfl)) ?_
  first | (refine RS.q rfl (QO.load ty3 (by rfl) (by repeat (first | exact List.Mem.head _ | refine List.Mem.tail _ ?_)) (by rfl)) ?_) | (refine RS.q rfl (QO.loadO ty3 (by rfl) (by assumption)) ?_) | (refine RS.q rfl (QO.load ty3 (by rfl) (by repeat (first | exact List.Mem.head _ | refine List.Mem.tail _ ?_)) (by assumption)) ?_)
  refine RS.q rfl (QO.max2 (by rfl) (by rfl)) ?_
  refine RS.q rfl (QO.min2 (by rfl) (by rfl)) ?_
  refine RS.q rfl (QO.fieldAddr fo34_0 (by rfl)) ?_
  refine RS.q rfl (QO.fieldAddr fo31_1 (by rfl)) ?_
  first | (refine RS.q rfl (QO.load ty3 (by rfl) (by repeat (first | exact List.Mem.head _ | refine List.Mem.tail _ ?_)) (by rfl)) ?_) | (refine RS.q rfl (QO.loadO ty3 (by rfl) (by assumption)) ?_) | (refine RS.q rfl (QO.load ty3 (by rfl) (by repeat (first | exact List.Mem.head _ | refine List.Mem.tail _ ?_)) (by assumption)) ?_)
  refine RS.q rfl (QO.max2 (by rfl) (by rfl)) ?_
  refine RS.q rfl (QO.min2 (by rfl) (by rfl)) ?_
  refine RS.q rfl (QO.fieldAddr fo34_0 (by rfl)) ?_
  refine RS.q rfl (QO.fieldAddr fo31_0 (by rfl)) ?_
  refine RS.store1 ty3 rfl (by rfl) (by rfl) (by rfl) (by repeat (first | exact Upd.head | apply Upd.tail)) (by first | (simp; done) | (simp; omega) | omega) ?_
  refine RS.q rfl (QO.fieldAddr fo34_0 (by rfl)) ?_
  refine RS.q rfl (QO.fieldAddr fo31_1 (by rfl)) ?_
  refine RS.store1 ty3 rfl (by rfl) (by rfl) (by rfl) (by repeat (first | exact Upd.head | apply Upd.tail)) (by first | (simp; done) | (simp; omega) | omega) ?_
  refine RS.nil ?_
  refine thenC_n ?_
  refine CS.seq ?_
  refine CS.region ?_
  refine RS.q rfl (QO.fieldAddr fo34_0 (by rfl)) ?_
  refine RS.q rfl (QO.fieldAddr fo31_2 (by rfl)) ?_
  first | (refine RS.q rfl (QO.load ty3 (by rfl) (by repeat (first | exact List.Mem.head _ | refine List.Mem.tail _ ?_)) (by rfl)) ?_) | (refine RS.q rfl (QO.loadO ty3 (by rfl) (by assumption)) ?_) | (refine RS.q rfl (QO.load ty3 (by rfl) (by repeat (first | exact List.Mem.head _ | refine List.Mem.tail _ ?_)) (by assumption)) ?_)
  first | (refine RS.q rfl (QO.mul (by rfl) (by rfl) (by omega) (by omega)) ?_) | (refine RS.q rfl (QO.ibin (by rfl) (by rfl) trivial) ?_)
  refine RS.q rfl (QO.fieldAddr fo34_0 (by rfl)) ?_
  refine RS.q rfl (QO.fieldAddr fo31_3 (by rfl)) ?_
  first | (refine RS.q rfl (QO.load ty3 (by rfl) (by repeat (first | exact List.Mem.head _ | refine List.Mem.tail _ ?_)) (by rfl)) ?_) | (refine RS.q rfl (QO.loadO ty3 (by rfl) (by assumption)) ?_) | (refine RS.q rfl (QO.load ty3 (by rfl) (by repeat (first | exact List.Mem.head _ | refine List.Mem.tail _ ?_)) (by assumption)) ?_)
  first | (refine RS.q rfl (QO.mul (by rfl) (by rfl) (by omega) (by omega)) ?_) | (refine RS.q rfl (QO.ibin (by rfl) (by rfl) trivial) ?_)
  refine RS.make rfl Tryd.underlying32 ty36 (by rfl) (by rfl) (by omega) (by omega) (by omega) (by omega) ?_
  intro gv
  refine RS.q rfl (QO.assign) ?_
  refine RS.nil ?_
  refine thenC_n ?_
  refine CS.seq ?_
  refine CS.seq ?_
  refine CS.region ?_
  refine RS.q rfl (QO.move) ?_
  refine RS.q rfl (QO.lenS Tryd.underlying32 (by rfl)) ?_
  refine RS.q rfl (QO.move) ?_
  refine RS.nil ?_
  refine thenC_n ?_
  refine CS.block ?_
  refine CS.loop (X := Nat) (4 :: 44 :: 45 :: 46 :: 47 :: 48 :: 49 :: 50 :: 51 :: 52 :: 53 :: 54 :: 55 :: 56 :: 57 :: 58 :: 59 :: 60 :: 61 :: 62 :: 63 :: []) (fun k => [(44, iv k)]) (fun k => [⟨gv, 36, fitL xs (fitN wi he) k⟩, ⟨g2, 34, [iv 0, iv 0, iv 0, iv 0, .slice none 0 0]⟩, ⟨g1, 34, [iv (clamp x), iv (clamp y), iv (1 + and7 wi), iv (1 + and7 he), .slice A xs.length c]⟩]) (fun k => k ≤ fitN wi he) (fun k => fitN wi he - k) 0 (Nat.zero_le _) ?_ ?_ ?_
  · exact (by repeat (first | exact kn_nil | refine kn_cons (by rfl) ?_))
  · exact (by rw [fitL_zero]; exact (by repeat (first | exact List.Sublist.refl _ | exact List.nil_sublist _ | refine List.Sublist.cons_cons _ ?_ | refine List.Sublist.cons _ ?_ | exact Sbp.refl | exact Sbp.nil | refine Sbp.cons (by repeat (first | exact Rem.head | apply Rem.tail)) ?_ | exact Sbp.app | refine Sbp.skip ?_)))
  · intro k gj5 hz
    refine CS.seq ?_
    refine CS.region ?_
    refine RS.q rfl (QO.lss (by rfl) (by rfl)) ?_
    refine RS.nil ?_
    refine thenC_n ?_
    refine CS.seq ?_
    refine CS.cond (by rfl) (fun hb0 => ?_) (fun hb0 => ?_)
    · have hb0p := of_decide_eq_true hb0
      refine CS.skip ?_
      refine thenC_n ?_
      refine CS.seq ?_
      refine CS.block ?_
      refine CS.seq ?_
      refine CS.region ?_
      refine RS.q rfl (QO.move) ?_
      refine RS.q rfl (QO.assign) ?_
      refine RS.nil ?_
      refine thenC_n ?_
      refine CS.seq ?_
      refine CS.region ?_
      refine RS.q rfl (QO.fieldAddr fo34_1 (by rfl)) ?_
      first | (refine RS.q rfl (QO.load ty32 (by rfl) (by repeat (first | exact List.Mem.head _ | refine List.Mem.tail _ ?_)) (by rfl)) ?_) | (refine RS.q rfl (QO.loadO ty32 (by rfl) (by assumption)) ?_) | (refine RS.q rfl (QO.load ty32 (by rfl) (by repeat (first | exact List.Mem.head _ | refine List.Mem.tail _ ?_)) (by assumption)) ?_)
      refine RS.q rfl (QO.lenS Tryd.underlying32 (by rfl)) ?_
      refine RS.q rfl (QO.gtr (by rfl) (by rfl)) ?_
      refine RS.nil ?_
      refine thenC_n ?_
      refine CS.cond (by rfl) (fun hb1 => ?_) (fun hb1 => ?_)
      · have hb1p := of_decide_eq_true hb1
        refine CS.draw 12 rfl (by kernel_rfl) (by kernel_rfl) ?_
        obtain ⟨bA, oA, rfl, hcell⟩ := hA (by omega)
        have hlt : k % xs.length < xs.length := Nat.mod_lt _ (by omega)
        refine RT.take (i := 0) rfl (by kernel_rfl) rfl (QO.move) ?_
        refine RT.take (i := 1) rfl (by kernel_rfl) rfl (QO.move) ?_
        refine RT.take (i := 2) rfl (by kernel_rfl) rfl (QO.fieldAddr fo34_1 (by rfl)) ?_
        first | (refine RT.take (i := 3) rfl (by kernel_rfl) rfl (QO.load ty32 (by rfl) (by repeat (first | exact List.Mem.head _ | refine List.Mem.tail _ ?_)) (by rfl)) ?_) | (refine RT.take (i := 3) rfl (by kernel_rfl) rfl (QO.loadO ty32 (by rfl) (by assumption)) ?_) | (refine RT.take (i := 3) rfl (by kernel_rfl) rfl (QO.load ty32 (by rfl) (by repeat (first | exact List.Mem.head _ | refine List.Mem.tail _ ?_)) (by assumption)) ?_)
        refine RT.take (i := 4) rfl (by kernel_rfl) rfl (QO.move) ?_
        refine RT.take (i := 5) rfl (by kernel_rfl) rfl (QO.fieldAddr fo34_1 (by rfl)) ?_
        first | (refine RT.take (i := 6) rfl (by kernel_rfl) rfl (QO.load ty32 (by rfl) (by repeat (first | exact List.Mem.head _ | refine List.Mem.tail _ ?_)) (by rfl)) ?_) | (refine RT.take (i := 6) rfl (by kernel_rfl) rfl (QO.loadO ty32 (by rfl) (by assumption)) ?_) | (refine RT.take (i := 6) rfl (by kernel_rfl) rfl (QO.load ty32 (by rfl) (by repeat (first | exact List.Mem.head _ | refine List.Mem.tail _ ?_)) (by assumption)) ?_)
        refine RT.take (i := 7) rfl (by kernel_rfl) rfl (QO.lenS Tryd.underlying32 (by rfl)) ?_
        refine RT.takev (i := 8) rfl (by kernel_rfl) rfl (QO.rem (by rfl) (by rfl) (by omega)) (congrArg iv (tmod_cast k xs.length)) ?_
        first | (refine RT.take (i := 9) rfl (by kernel_rfl) rfl (QO.idx0 Tryd.underlying32 ty36 (by rfl) (by rfl) (by rfl) (by omega)) ?_) | (refine RT.take (i := 9) rfl (by kernel_rfl) rfl (QO.idxn Tryd.underlying32 ty36 (by rfl) (by rfl) (by rfl) (by omega)) ?_) | (refine RT.take (i := 9) rfl (by kernel_rfl) rfl (QO.idx1 Tryd.underlying32 ty36 (by rfl) (by rfl) (by omega) (by omega)) ?_)
        refine RT.take (i := 10) rfl (by kernel_rfl) rfl (QO.loadO ty36 (by rfl) (hcell _ _ (List.getElem?_eq_getElem hlt))) ?_
        first | (refine RT.take (i := 11) rfl (by kernel_rfl) rfl (QO.idx0 Tryd.underlying32 ty36 (by rfl) (by rfl) (by rfl) (by omega)) ?_) | (refine RT.take (i := 11) rfl (by kernel_rfl) rfl (QO.idxn Tryd.underlying32 ty36 (by rfl) (by rfl) (by rfl) (by omega)) ?_) | (refine RT.take (i := 11) rfl (by kernel_rfl) rfl (QO.idx1 Tryd.underlying32 ty36 (by rfl) (by rfl) (by omega) (by omega)) ?_)
        refine RT.tail (i := 12) (by kernel_rfl) rfl rfl ?_
        refine RS.store1e ty36 rfl (by rfl) (by rfl) (by rfl) (fitL_set' xs (fitN wi he) k _ (fitv_at _ _ hlt) (by omega)) (by repeat (first | exact Upd.head | apply Upd.tail)) (by rw [fitL_len]; omega) ?_
        refine RS.nil ?_
        refine RT.done (by kernel_rfl) ?_
        refine blockC_n ?_
        refine thenC_n ?_
        refine CS.region ?_
        first | (refine RS.q rfl (QO.add (by rfl) (by rfl) (by omega) (by omega)) ?_) | (refine RS.q rfl (QO.ibin (by rfl) (by rfl) trivial) ?_)
        refine RS.q rfl (QO.move) ?_
        refine RS.nil ?_
        refine loopQ_n (by intro t ht; repeat (first | with_reducible exact rfl | exact frame_puts ht (frame_mix ht) _ rfl | (refine frame_put rfl ht ?_) | (refine frame_puts ht ?_ _ rfl) | exact frame_mix ht | (refine frame_mix2 rfl ht ?_) | exact rfl)) ?_
        exact ⟨k + 1, by omega, by omega, (by repeat (first | exact kn_nil | refine kn_cons (by rfl) ?_)), (by repeat (first | exact List.Sublist.refl _ | exact List.nil_sublist _ | refine List.Sublist.cons_cons _ ?_ | refine List.Sublist.cons _ ?_ | exact Sbp.refl | exact Sbp.nil | refine Sbp.cons (by repeat (first | exact Rem.head | apply Rem.tail)) ?_ | exact Sbp.app | refine Sbp.skip ?_))⟩
      · have hb1p := of_decide_eq_false hb1
        refine CS.skip ?_
        refine blockC_n ?_
        refine thenC_n ?_
        refine CS.region ?_
        first | (refine RS.q rfl (QO.add (by rfl) (by rfl) (by omega) (by omega)) ?_) | (refine RS.q rfl (QO.ibin (by rfl) (by rfl) trivial) ?_)
        refine RS.q rfl (QO.move) ?_
        refine RS.nil ?_
        refine loopQ_n (by intro t ht; repeat (first | with_reducible exact rfl | exact frame_puts ht (frame_mix ht) _ rfl | (refine frame_put rfl ht ?_) | (refine frame_puts ht ?_ _ rfl) | exact frame_mix ht | (refine frame_mix2 rfl ht ?_) | exact rfl)) ?_
        exact ⟨k + 1, by omega, by omega, (by repeat (first | exact kn_nil | refine kn_cons (by rfl) ?_)), (by rw [← fitL_skip _ _ _ (by omega)]; exact (by repeat (first | exact List.Sublist.refl _ | exact List.nil_sublist _ | refine List.Sublist.cons_cons _ ?_ | refine List.Sublist.cons _ ?_ | exact Sbp.refl | exact Sbp.nil | refine Sbp.cons (by repeat (first | exact Rem.head | apply Rem.tail)) ?_ | exact Sbp.app | refine Sbp.skip ?_)))⟩
    · have hb0p := of_decide_eq_false hb0
      refine CS.exit ?_
      refine thenC_x ?_
      refine loopQ_x ?_
      refine blockC_x ?_
      refine thenC_n ?_
      refine CS.seq ?_
      refine CS.region ?_
      refine RS.q rfl (QO.move) ?_
      refine RS.q rfl (QO.fieldAddr fo34_1 (by rfl)) ?_
      refine RS.store1 ty32 rfl (by rfl) (by rfl) (by rfl) (by repeat (first | exact Upd.head | apply Upd.tail)) (by first | (simp; done) | (simp; omega) | omega) ?_
      refine RS.nil ?_
      refine thenC_n ?_
      refine CS.seq ?_
      refine CS.region ?_
      first | (refine RS.q rfl (QO.loadB ty34 (by rfl) (by repeat (first | exact List.Mem.head _ | refine List.Mem.tail _ ?_)) (by rfl)) ?_) | (refine RS.q rfl (QO.loadA ty34 (by rfl) (by repeat (first | exact List.Mem.head _ | refine List.Mem.tail _ ?_)) (by rfl) (by rfl)) ?_) | (refine RS.q rfl (QO.loadOA ty34 (by rfl) (by assumption) (by rfl)) ?_)
      first | refine RS.storeB ty34 (by rfl) (by rfl) (by rfl) (by rfl) (by rfl) (by repeat (first | exact Upd.head | apply Upd.tail)) (by rfl) ?_ | refine RS.storeP ty34 (by rfl) (by rfl) (by rfl) (by rfl) (by rfl) (by repeat (first | exact Upd.head | apply Upd.tail)) (by rfl) ?_
      refine RS.nil ?_
      refine thenC_n ?_
      refine CS.ret ?_
      refine retQ.mk (H' := [⟨gv, 36, (fitV xs wi he).map flt⟩]) (.inr rfl) (RVs.cellA ty34 (by rfl) (by repeat (first | exact List.Mem.head _ | refine List.Mem.tail _ ?_)) (by rfl) RVs.nil) (by obtain rfl : k = fitN wi he := (by omega); rw [fitL_full]; exact (by repeat (first | exact List.Sublist.refl _ | exact List.nil_sublist _ | refine List.Sublist.cons_cons _ ?_ | refine List.Sublist.cons _ ?_ | exact Sbp.refl | exact Sbp.nil | refine Sbp.cons (by repeat (first | exact Rem.head | apply Rem.tail)) ?_ | exact Sbp.app | refine Sbp.skip ?_))) ?_
      exact ⟨gv, rfl, rfl⟩

def frErr (x y w h : Int) (n : Nat) : Int := if regErr x y w h ≠ 0 then regErr x y w h else if (n : Int) ≠ 4 * w * h then 2 else 0
theorem frErr_ok {x y w h : Int} {n : Nat} (e : frErr x y w h n = 0) : regErr x y w h = 0 ∧ (n : Int) = 4 * w * h := by
  unfold frErr at e
  split at e
  · contradiction
  · rename_i h1
    split at e
    · cases e
    · rename_i h2
      exact ⟨Decidable.not_not.1 h1, Decidable.not_not.1 h2⟩

set_option maxRecDepth 100000 in
theorem check (x y wi he : Int) (A : Option Addr) (m c : Nat) (W : World) : Fn_ Tryd.prog 15 #[.agg #[iv x, iv y, iv wi, iv he, .slice A m c]] W (fun v H => v = iv (frErr x y wi he m) ∧ H = []) := by
  refine Fn_.intro Tryd.func15 rfl rfl (by rfl) ?_
  refine CS.seq ?_
  refine CS.region ?_
  refine RS.box rfl (by rfl) (by rfl) ?_
  intro g1
  refine RS.q rfl (QO.assign) ?_
  refine RS.nil ?_
  refine thenC_n ?_
  refine CS.seq ?_
  refine CS.seq ?_
  refine CS.region ?_
  refine RS.q rfl (QO.fieldAddr fo34_0 (by rfl)) ?_
  first | (refine RS.q rfl (QO.loadB ty31 (by rfl) (by repeat (first | exact List.Mem.head _ | refine List.Mem.tail _ ?_)) (by rfl)) ?_) | (refine RS.q rfl (QO.loadA ty31 (by rfl) (by repeat (first | exact List.Mem.head _ | refine List.Mem.tail _ ?_)) (by rfl) (by rfl)) ?_) | (refine RS.q rfl (QO.loadOA ty31 (by rfl) (by assumption) (by rfl)) ?_)
  refine RS.call rfl (by rfl) ok69 (by rfl) (fun w ho => checkRegion _ _ _ _ _) ?_
  rintro _ _ ⟨rfl, rfl⟩
  refine RS.q rfl (QO.assign) ?_
  refine RS.nil ?_
  refine thenC_n ?_
  refine CS.seq ?_
  refine CS.region ?_
  refine RS.q rfl (QO.move) ?_
  refine RS.q rfl (QO.neq (by rfl) (by rfl)) ?_
  refine RS.nil ?_
  refine thenC_n ?_
  refine CS.cond (by rfl) (fun hb0 => ?_) (fun hb0 => ?_)
  · have hb0p := bne_iff_ne.1 hb0
    refine CS.seq ?_
    refine CS.region ?_
    refine RS.q rfl (QO.move) ?_
    refine RS.q rfl (QO.assign) ?_
    refine RS.nil ?_
    refine thenC_n ?_
    refine CS.ret ?_
    refine thenC_r ?_
    refine retQ.mk (H' := []) (.inr rfl) (RVs.tmp (by rfl) RVs.nil) (List.nil_sublist _) ?_
    exact ⟨congrArg iv (by unfold frErr; rw [if_pos hb0p]), rfl⟩
  · have hb0p := of_bne_false hb0
    refine CS.skip ?_
    refine thenC_n ?_
    refine CS.seq ?_
    refine CS.seq ?_
    refine CS.region ?_
    have hro := regErr_ok (of_bne_false hb0)
    refine RS.q rfl (QO.fieldAddr fo34_1 (by rfl)) ?_
    first | (refine RS.q rfl (QO.load ty32 (by rfl) (by repeat (first | exact List.Mem.head _ | refine List.Mem.tail _ ?_)) (by rfl)) ?_) | (refine RS.q rfl (QO.loadO ty32 (by rfl) (by assumption)) ?_) | (refine RS.q rfl (QO.load ty32 (by rfl) (by repeat (first | exact List.Mem.head _ | refine List.Mem.tail _ ?_)) (by assumption)) ?_)
    refine RS.q rfl (QO.lenS Tryd.underlying32 (by rfl)) ?_
    refine RS.q rfl (QO.fieldAddr fo34_0 (by rfl)) ?_
    refine RS.q rfl (QO.fieldAddr fo31_2 (by rfl)) ?_
    first | (refine RS.q rfl (QO.load ty3 (by rfl) (by repeat (first | exact List.Mem.head _ | refine List.Mem.tail _ ?_)) (by rfl)) ?_) | (refine RS.q rfl (QO.loadO ty3 (by rfl) (by assumption)) ?_) | (refine RS.q rfl (QO.load ty3 (by rfl) (by repeat (first | exact List.Mem.head _ | refine List.Mem.tail _ ?_)) (by assumption)) ?_)
    first | (refine RS.q rfl (QO.mul (by rfl) (by rfl) (by omega) (by omega)) ?_) | (refine RS.q rfl (QO.ibin (by rfl) (by rfl) trivial) ?_)
    refine RS.q rfl (QO.fieldAddr fo34_0 (by rfl)) ?_
    refine RS.q rfl (QO.fieldAddr fo31_3 (by rfl)) ?_
    first | (refine RS.q rfl (QO.load ty3 (by rfl) (by repeat (first | exact List.Mem.head _ | refine List.Mem.tail _ ?_)) (by rfl)) ?_) | (refine RS.q rfl (QO.loadO ty3 (by rfl) (by assumption)) ?_) | (refine RS.q rfl (QO.load ty3 (by rfl) (by repeat (first | exact List.Mem.head _ | refine List.Mem.tail _ ?_)) (by assumption)) ?_)
    first | (refine RS.q rfl (QO.mul (by rfl) (by rfl) (by omega) (by omega)) ?_) | (refine RS.q rfl (QO.ibin (by rfl) (by rfl) trivial) ?_)
    refine RS.q rfl (QO.neq (by rfl) (by rfl)) ?_
    refine RS.nil ?_
    refine thenC_n ?_
    refine CS.cond (by rfl) (fun hb1 => ?_) (fun hb1 => ?_)
    · have hb1p := bne_iff_ne.1 hb1
      refine CS.seq ?_
      refine CS.region ?_
      refine RS.q rfl (QO.assign) ?_
      refine RS.nil ?_
      refine thenC_n ?_
      refine CS.ret ?_
      refine thenC_r ?_
      refine retQ.mk (H' := []) (.inr rfl) (RVs.tmp (by rfl) RVs.nil) (List.nil_sublist _) ?_
      exact ⟨congrArg iv (by unfold frErr; rw [if_neg (Decidable.not_not.2 hb0p), if_pos hb1p]), rfl⟩
    · have hb1p := of_bne_false hb1
      refine CS.skip ?_
      refine thenC_n ?_
      refine CS.seq ?_
      refine CS.region ?_
      refine RS.q rfl (QO.assign) ?_
      refine RS.nil ?_
      refine thenC_n ?_
      refine CS.ret ?_
      refine retQ.mk (H' := []) (.inr rfl) (RVs.tmp (by rfl) RVs.nil) (List.nil_sublist _) ?_
      exact ⟨congrArg iv (by unfold frErr; rw [if_neg (Decidable.not_not.2 hb0p), if_neg (Decidable.not_not.2 hb1p)]), rfl⟩

/-- what Plane comes to -/
def PlaneR (x y wi he : Int) (xs : List Nat) (ch : Int) (v : Value) (H : HL) : Prop :=
  (frErr x y wi he xs.length ≠ 0 ∧ v = .tuple #[.slice none 0 0, iv (frErr x y wi he xs.length)] ∧ H = []) ∨
  (frErr x y wi he xs.length = 0 ∧ (ch < 0 ∨ 3 < ch) ∧ v = .tuple #[.slice none 0 0, iv 3] ∧ H = []) ∨
  (frErr x y wi he xs.length = 0 ∧ 0 ≤ ch ∧ ch ≤ 3 ∧ ∃ g, v = .tuple #[.slice (some ⟨g, 0, none⟩) (wi * he).toNat (wi * he).toNat, iv 0] ∧ H = [⟨g, 36, (planeV xs ch (wi * he).toNat).map flt⟩])

set_option maxRecDepth 100000 in
theorem plane (x y wi he : Int) (A : Option Addr) (n c : Nat) (xs : List Nat) (ch : Int) (W : World) (hn : xs.length = n) (hA : FS W A xs) : Fn_ Tryd.prog 78 #[.agg #[iv x, iv y, iv wi, iv he, .slice A n c], iv ch] W (fun v H => PlaneR x y wi he xs ch v H) := by
  subst hn
  refine Fn_.intro Tryd.func78 rfl rfl (by rfl) ?_
  refine CS.seq ?_
  refine CS.region ?_
  refine RS.box rfl (by rfl) (by rfl) ?_
  intro g2
  refine RS.q rfl (QO.assign) ?_
  refine RS.q rfl (QO.assign) ?_
  refine RS.nil ?_
  refine thenC_n ?_
  refine CS.seq ?_
  refine CS.seq ?_
  refine CS.region ?_
  first | (refine RS.q rfl (QO.loadB ty34 (by rfl) (by repeat (first | exact List.Mem.head _ | refine List.Mem.tail _ ?_)) (by rfl)) ?_) | (refine RS.q rfl (QO.loadA ty34 (by rfl) (by repeat (first | exact List.Mem.head _ | refine List.Mem.tail _ ?_)) (by rfl) (by rfl)) ?_) | (refine RS.q rfl (QO.loadOA ty34 (by rfl) (by assumption) (by rfl)) ?_)
  refine RS.call rfl (by rfl) ok15 (by rfl) (fun w ho => check _ _ _ _ _ _ _ _) ?_
  rintro _ _ ⟨rfl, rfl⟩
  refine RS.q rfl (QO.assign) ?_
  refine RS.nil ?_
  refine thenC_n ?_
  refine CS.seq ?_
  refine CS.region ?_
  refine RS.q rfl (QO.move) ?_
  refine RS.q rfl (QO.neq (by rfl) (by rfl)) ?_
  refine RS.nil ?_
  refine thenC_n ?_
  refine CS.cond (by rfl) (fun hb0 => ?_) (fun hb0 => ?_)
  · have hb0p := bne_iff_ne.1 hb0
    refine CS.seq ?_
    refine CS.region ?_
    refine RS.q rfl (QO.move) ?_
    refine RS.q rfl (QO.assign) ?_
    refine RS.q rfl (QO.assign) ?_
    refine RS.nil ?_
    refine thenC_n ?_
    refine CS.ret ?_
    refine thenC_r ?_
    refine retQ.mk (H' := []) (.inr rfl) (RVs.tmp (by rfl) (RVs.tmp (by rfl) RVs.nil)) (List.nil_sublist _) ?_
    exact .inl ⟨hb0p, rfl, rfl⟩
  · have hb0p := of_bne_false hb0
    refine CS.skip ?_
    refine thenC_n ?_
    refine CS.seq ?_
    refine CS.seq ?_
    refine CS.region ?_
    refine RS.q rfl (QO.move) ?_
    refine RS.q rfl (QO.lss (by rfl) (by rfl)) ?_
    refine RS.q rfl (QO.move) ?_
    refine RS.split (dj := 16) (by rfl) (fun hb1 => ?_) (fun hb1 => ?_)
    · have hb1p := of_decide_eq_true hb1
      refine RS.off (dj := 16) rfl (.inl (congrArg Value.bool hb1)) (fun _ => rfl) rfl ?_
      refine RS.off (dj := 16) rfl (.inl (congrArg Value.bool hb1)) (fun _ => rfl) rfl ?_
      refine RS.q rfl (QO.pickT (by rfl) hb1 (by rfl)) ?_
      refine RS.nil ?_
      refine thenC_n ?_
      refine CS.condT (by rfl) rfl ?_
      refine CS.seq ?_
      refine CS.region ?_
      refine RS.q rfl (QO.assign) ?_
      refine RS.q rfl (QO.assign) ?_
      refine RS.nil ?_
      refine thenC_n ?_
      refine CS.ret ?_
      refine thenC_r ?_
      refine retQ.mk (H' := []) (.inr rfl) (RVs.tmp (by rfl) (RVs.tmp (by rfl) RVs.nil)) (List.nil_sublist _) ?_
      exact .inr (.inl ⟨of_bne_false hb0, .inl hb1p, rfl, rfl⟩)
    · have hb1p := of_decide_eq_false hb1
      refine RS.on (dj := 16) rfl (congrArg Value.bool hb1) ?_
      refine RS.q rfl (QO.move) ?_
      refine RS.on (dj := 16) rfl (congrArg Value.bool hb1) ?_
      refine RS.q rfl (QO.gtr (by rfl) (by rfl)) ?_
      refine RS.q rfl (QO.pickF (by rfl) hb1 (by rfl)) ?_
      refine RS.nil ?_
      refine thenC_n ?_
      refine CS.cond (by rfl) (fun hb2 => ?_) (fun hb2 => ?_)
      · have hb2p := of_decide_eq_true hb2
        refine CS.seq ?_
        refine CS.region ?_
        refine RS.q rfl (QO.assign) ?_
        refine RS.q rfl (QO.assign) ?_
        refine RS.nil ?_
        refine thenC_n ?_
        refine CS.ret ?_
        refine thenC_r ?_
        refine retQ.mk (H' := []) (.inr rfl) (RVs.tmp (by rfl) (RVs.tmp (by rfl) RVs.nil)) (List.nil_sublist _) ?_
        exact .inr (.inl ⟨of_bne_false hb0, .inr hb2p, rfl, rfl⟩)
      · have hb2p := of_decide_eq_false hb2
        refine CS.skip ?_
        refine thenC_n ?_
        refine CS.seq ?_
        refine CS.region ?_
        obtain ⟨hr0, hn0⟩ := frErr_ok (of_bne_false hb0)
        have hro := regErr_ok hr0
        have hm : (((wi * he).toNat : Nat) : Int) = wi * he := by omega
        refine RS.q rfl (QO.fieldAddr fo34_0 (by rfl)) ?_
        refine RS.q rfl (QO.fieldAddr fo31_2 (by rfl)) ?_
        first | (refine RS.q rfl (QO.load ty3 (by rfl) (by repeat (first | exact List.Mem.head _ | refine List.Mem.tail _ ?_)) (by rfl)) ?_) | (refine RS.q rfl (QO.loadO ty3 (by rfl) (by assumption)) ?_) | (refine RS.q rfl (QO.load ty3 (by rfl) (by repeat (first | exact List.Mem.head _ | refine List.Mem.tail _ ?_)) (by assumption)) ?_)
        refine RS.q rfl (QO.fieldAddr fo34_0 (by rfl)) ?_
        refine RS.q rfl (QO.fieldAddr fo31_3 (by rfl)) ?_
        first | (refine RS.q rfl (QO.load ty3 (by rfl) (by repeat (first | exact List.Mem.head _ | refine List.Mem.tail _ ?_)) (by rfl)) ?_) | (refine RS.q rfl (QO.loadO ty3 (by rfl) (by assumption)) ?_) | (refine RS.q rfl (QO.load ty3 (by rfl) (by repeat (first | exact List.Mem.head _ | refine List.Mem.tail _ ?_)) (by assumption)) ?_)
        first | (refine RS.q rfl (QO.mul (by rfl) (by rfl) (by omega) (by omega)) ?_) | (refine RS.q rfl (QO.ibin (by rfl) (by rfl) trivial) ?_)
        refine RS.make rfl Tryd.underlying32 ty36 (by rfl) (by rfl) (by omega) (by omega) (by omega) (by omega) ?_
        intro gp
        refine RS.q rfl (QO.assign) ?_
        refine RS.nil ?_
        refine thenC_n ?_
        refine CS.seq ?_
        refine CS.seq ?_
        refine CS.region ?_
        refine RS.q rfl (QO.move) ?_
        refine RS.q rfl (QO.lenS Tryd.underlying32 (by rfl)) ?_
        refine RS.q rfl (QO.move) ?_
        refine RS.nil ?_
        refine thenC_n ?_
        refine CS.block ?_
        refine CS.loop (X := Nat) (8 :: 30 :: 31 :: 32 :: 33 :: 34 :: 35 :: 36 :: 37 :: 38 :: 39 :: 40 :: 41 :: 42 :: 43 :: 44 :: 45 :: []) (fun k => [(30, iv k)]) (fun k => [⟨gp, 36, partL (planeF xs ch) (wi * he).toNat k⟩, ⟨g2, 34, [iv x, iv y, iv wi, iv he, .slice A xs.length c]⟩]) (fun k => k ≤ (wi * he).toNat) (fun k => (wi * he).toNat - k) 0 (Nat.zero_le _) ?_ ?_ ?_
        · exact (by repeat (first | exact kn_nil | refine kn_cons (by rfl) ?_))
        · exact (by rw [partL_zero]; exact (by repeat (first | exact List.Sublist.refl _ | exact List.nil_sublist _ | refine List.Sublist.cons_cons _ ?_ | refine List.Sublist.cons _ ?_ | exact Sbp.refl | exact Sbp.nil | refine Sbp.cons (by repeat (first | exact Rem.head | apply Rem.tail)) ?_ | exact Sbp.app | refine Sbp.skip ?_)))
        · intro k gj8 hz
          refine CS.seq ?_
          refine CS.region ?_
          refine RS.q rfl (QO.lss (by rfl) (by rfl)) ?_
          refine RS.nil ?_
          refine thenC_n ?_
          refine CS.seq ?_
          refine CS.cond (by rfl) (fun hb3 => ?_) (fun hb3 => ?_)
          · have hb3p := of_decide_eq_true hb3
            refine CS.skip ?_
            refine thenC_n ?_
            refine CS.seq ?_
            refine CS.block ?_
            refine CS.seq ?_
            refine CS.region ?_
            refine RS.q rfl (QO.move) ?_
            refine RS.q rfl (QO.assign) ?_
            refine RS.nil ?_
            refine thenC_n ?_
            refine CS.region ?_
            obtain ⟨bA, oA, rfl, hcell⟩ := hA (by omega)
            have hlt : (4 * (k : Int) + ch).toNat < xs.length := by omega
            refine RS.q rfl (QO.move) ?_
            refine RS.q rfl (QO.move) ?_
            refine RS.q rfl (QO.fieldAddr fo34_1 (by rfl)) ?_
            first | (refine RS.q rfl (QO.load ty32 (by rfl) (by repeat (first | exact List.Mem.head _ | refine List.Mem.tail _ ?_)) (by rfl)) ?_) | (refine RS.q rfl (QO.loadO ty32 (by rfl) (by assumption)) ?_) | (refine RS.q rfl (QO.load ty32 (by rfl) (by repeat (first | exact List.Mem.head _ | refine List.Mem.tail _ ?_)) (by assumption)) ?_)
            refine RS.q rfl (QO.move) ?_
            first | (refine RS.q rfl (QO.mul (by rfl) (by rfl) (by omega) (by omega)) ?_) | (refine RS.q rfl (QO.ibin (by rfl) (by rfl) trivial) ?_)
            refine RS.q rfl (QO.move) ?_
            first | (refine RS.q rfl (QO.add (by rfl) (by rfl) (by omega) (by omega)) ?_) | (refine RS.q rfl (QO.ibin (by rfl) (by rfl) trivial) ?_)
            first | (refine RS.q rfl (QO.idx0 Tryd.underlying32 ty36 (by rfl) (by rfl) (by rfl) (by omega)) ?_) | (refine RS.q rfl (QO.idxn Tryd.underlying32 ty36 (by rfl) (by rfl) (by rfl) (by omega)) ?_) | (refine RS.q rfl (QO.idx1 Tryd.underlying32 ty36 (by rfl) (by rfl) (by omega) (by omega)) ?_)
            refine RS.q rfl (QO.loadO ty36 (by rfl) (hcell _ _ (List.getElem?_eq_getElem hlt))) ?_
            refine RS.call rfl (by rfl) ok75 (by rfl) (fun w ho => clean _ _) ?_
            rintro _ _ ⟨rfl, rfl⟩
            first | (refine RS.q rfl (QO.idx0 Tryd.underlying32 ty36 (by rfl) (by rfl) (by rfl) (by omega)) ?_) | (refine RS.q rfl (QO.idxn Tryd.underlying32 ty36 (by rfl) (by rfl) (by rfl) (by omega)) ?_) | (refine RS.q rfl (QO.idx1 Tryd.underlying32 ty36 (by rfl) (by rfl) (by omega) (by omega)) ?_)
            refine RS.store1e ty36 rfl (by rfl) (by rfl) (by rfl) (partL_set (planeF xs ch) (wi * he).toNat k _ (planeF_at xs ch k hlt) (by omega)) (by repeat (first | exact Upd.head | apply Upd.tail)) (by rw [partL_len]; omega) ?_
            refine RS.nil ?_
            refine blockC_n ?_
            refine thenC_n ?_
            refine CS.region ?_
            first | (refine RS.q rfl (QO.add (by rfl) (by rfl) (by omega) (by omega)) ?_) | (refine RS.q rfl (QO.ibin (by rfl) (by rfl) trivial) ?_)
            refine RS.q rfl (QO.move) ?_
            refine RS.nil ?_
            refine loopQ_n (by intro t ht; repeat (first | with_reducible exact rfl | exact frame_puts ht (frame_mix ht) _ rfl | (refine frame_put rfl ht ?_) | (refine frame_puts ht ?_ _ rfl) | exact frame_mix ht | (refine frame_mix2 rfl ht ?_) | exact rfl)) ?_
            exact ⟨k + 1, by omega, by omega, (by repeat (first | exact kn_nil | refine kn_cons (by rfl) ?_)), (by repeat (first | exact List.Sublist.refl _ | exact List.nil_sublist _ | refine List.Sublist.cons_cons _ ?_ | refine List.Sublist.cons _ ?_ | exact Sbp.refl | exact Sbp.nil | refine Sbp.cons (by repeat (first | exact Rem.head | apply Rem.tail)) ?_ | exact Sbp.app | refine Sbp.skip ?_))⟩
          · have hb3p := of_decide_eq_false hb3
            refine CS.exit ?_
            refine thenC_x ?_
            refine loopQ_x ?_
            refine blockC_x ?_
            refine thenC_n ?_
            refine CS.seq ?_
            refine CS.region ?_
            refine RS.q rfl (QO.move) ?_
            refine RS.q rfl (QO.assign) ?_
            refine RS.q rfl (QO.assign) ?_
            refine RS.nil ?_
            refine thenC_n ?_
            refine CS.ret ?_
            refine retQ.mk (H' := [⟨gp, 36, (planeV xs ch (wi * he).toNat).map flt⟩]) (.inr rfl) (RVs.tmp (by rfl) (RVs.tmp (by rfl) RVs.nil)) (by obtain rfl : k = (wi * he).toNat := (by omega); rw [partL_full]; exact (by repeat (first | exact List.Sublist.refl _ | exact List.nil_sublist _ | refine List.Sublist.cons_cons _ ?_ | refine List.Sublist.cons _ ?_ | exact Sbp.refl | exact Sbp.nil | refine Sbp.cons (by repeat (first | exact Rem.head | apply Rem.tail)) ?_ | exact Sbp.app | refine Sbp.skip ?_))) ?_
            exact .inr (.inr ⟨of_bne_false hb0, by omega, by omega, gp, rfl, rfl⟩)

set_option maxRecDepth 100000 in
theorem sum1 (m : Nat) : ∀ (xs : List Nat) (A : Option Addr) (c b0 : Nat) (W : World), xs.length = m → xs.length ≤ c → c ≤ maxLen → FS W A xs → W.cell? ⟨b0, 0, none⟩ = some (.func (.func 134) #[] #[.pointer (some ⟨b0, 0, none⟩)]) →
    Fn_ Tryd.prog 134 #[.slice A xs.length c, .pointer (some ⟨b0, 0, none⟩)] W (fun v H => ∃ r, v = flt r ∧ cl r = sum xs ∧ H = []) := by
  induction m using Nat.strongRecOn
  rename_i m ih
  intro xs A c b0 W hm hc hx hA hf
  have hx2 : c ≤ 9223372036854775807 := hx
  refine Fn_.intro Tryd.func134 rfl rfl (by rfl) ?_
  refine CS.seq ?_
  refine CS.region ?_
  refine RS.q rfl (QO.assign) ?_
  refine RS.nil ?_
  refine thenC_n ?_
  refine CS.seq ?_
  refine CS.seq ?_
  refine CS.region ?_
  refine RS.q rfl (QO.move) ?_
  refine RS.q rfl (QO.lenS Tryd.underlying32 (by rfl)) ?_
  refine RS.nil ?_
  refine thenC_n ?_
  refine CS.block ?_
  refine CS.seq ?_
  refine CS.region ?_
  refine RS.q rfl (QO.eql (by rfl) (by rfl)) ?_
  refine RS.q rfl (QO.assign) ?_
  refine RS.nil ?_
  refine thenC_n ?_
  refine CS.cond (by rfl) (fun hb0 => ?_) (fun hb0 => ?_)
  · have hb0p := eq_of_beq hb0
    refine CS.seq ?_
    refine CS.region ?_
    refine RS.q rfl (QO.assign) ?_
    refine RS.nil ?_
    refine thenC_n ?_
    refine CS.ret ?_
    refine blockC_r ?_
    refine thenC_r ?_
    refine retQ.mk (H' := []) (.inr rfl) (RVs.tmp (by rfl) RVs.nil) (List.nil_sublist _) ?_
    exact ⟨0, rfl, by obtain rfl : xs = [] := List.eq_nil_of_length_eq_zero (by have := eq_of_beq hb0; omega); rfl, rfl⟩
  · have hb0p := ne_of_beq_false hb0
    refine CS.seq ?_
    refine CS.region ?_
    refine RS.q rfl (QO.eql (by rfl) (by rfl)) ?_
    refine RS.q rfl (QO.assign) ?_
    refine RS.nil ?_
    refine thenC_n ?_
    refine CS.cond (by rfl) (fun hb1 => ?_) (fun hb1 => ?_)
    · have hb1p := eq_of_beq hb1
      refine CS.seq ?_
      refine CS.region ?_
      obtain ⟨x0, rfl⟩ : ∃ x0, xs = [x0] := by
        match xs, eq_of_beq hb1 with
        | [x0], _ => exact ⟨x0, rfl⟩
      obtain ⟨bA, oA, rfl, hcell⟩ := hA (by simp)
      refine RS.q rfl (QO.move) ?_
      first | (refine RS.q rfl (QO.idx0 Tryd.underlying32 ty36 (by rfl) (by rfl) (by rfl) (by omega)) ?_) | (refine RS.q rfl (QO.idxn Tryd.underlying32 ty36 (by rfl) (by rfl) (by rfl) (by omega)) ?_) | (refine RS.q rfl (QO.idx1 Tryd.underlying32 ty36 (by rfl) (by rfl) (by omega) (by omega)) ?_)
      refine RS.q rfl (QO.loadO ty36 (by rfl) (hcell 0 x0 rfl)) ?_
      refine RS.q rfl (QO.assign) ?_
      refine RS.nil ?_
      refine thenC_n ?_
      refine CS.ret ?_
      refine blockC_r ?_
      refine thenC_r ?_
      refine retQ.mk (H' := []) (.inr rfl) (RVs.tmp (by rfl) RVs.nil) (List.nil_sublist _) ?_
      exact ⟨x0, rfl, sum_one x0, rfl⟩
    · have hb1p := ne_of_beq_false hb1
      refine CS.skip ?_
      refine blockC_n ?_
      refine thenC_n ?_
      refine CS.seq ?_
      refine CS.region ?_
      have hln : 2 ≤ xs.length := by have := ne_of_beq_false hb0; have := ne_of_beq_false hb1; omega
      obtain ⟨bA, oA, rfl, hcell⟩ := hA (by omega)
      refine RS.q rfl (QO.move) ?_
      refine RS.q rfl (QO.lenS Tryd.underlying32 (by rfl)) ?_
      refine RS.qv rfl (QO.quo (by rfl) (by rfl) (by omega) (by omega) (by omega)) (congrArg iv (tdiv2 xs.length)) ?_
      refine RS.q rfl (QO.assign) ?_
      refine RS.nil ?_
      refine thenC_n ?_
      refine CS.seq ?_
      refine CS.draw 12 rfl (by kernel_rfl) (by kernel_rfl) ?_
      first | (refine RT.take (i := 0) rfl (by kernel_rfl) rfl (QO.load ty128 (by rfl) (by repeat (first | exact List.Mem.head _ | refine List.Mem.tail _ ?_)) (by rfl)) ?_) | (refine RT.take (i := 0) rfl (by kernel_rfl) rfl (QO.loadO ty128 (by rfl) (by assumption)) ?_) | (refine RT.take (i := 0) rfl (by kernel_rfl) rfl (QO.load ty128 (by rfl) (by repeat (first | exact List.Mem.head _ | refine List.Mem.tail _ ?_)) (by assumption)) ?_)
      refine RT.take (i := 1) rfl (by kernel_rfl) rfl (QO.move) ?_
      refine RT.take (i := 2) rfl (by kernel_rfl) rfl (QO.move) ?_
      refine RT.takev (i := 3) rfl (by kernel_rfl) rfl (QO.cutHi Tryd.underlying32 ty36 (by rfl) (by rfl) (by omega) (by omega)) (congrArg (fun q => Value.slice (some ⟨bA, oA, none⟩) q c) (show (((xs.length / 2 : Nat) : Int)).toNat = (xs.take (xs.length / 2)).length from by rw [List.length_take, Int.toNat_natCast]; omega)) ?_
      first | (refine RT.take (i := 5) rfl (by kernel_rfl) rfl (QO.load ty128 (by rfl) (by repeat (first | exact List.Mem.head _ | refine List.Mem.tail _ ?_)) (by rfl)) ?_) | (refine RT.take (i := 5) rfl (by kernel_rfl) rfl (QO.loadO ty128 (by rfl) (by assumption)) ?_) | (refine RT.take (i := 5) rfl (by kernel_rfl) rfl (QO.load ty128 (by rfl) (by repeat (first | exact List.Mem.head _ | refine List.Mem.tail _ ?_)) (by assumption)) ?_)
      refine RT.take (i := 6) rfl (by kernel_rfl) rfl (QO.move) ?_
      refine RT.take (i := 7) rfl (by kernel_rfl) rfl (QO.move) ?_
      refine RT.takev (i := 8) rfl (by kernel_rfl) rfl (QO.cutLo Tryd.underlying32 ty36 (by rfl) (by rfl) (by omega) (by omega)) (show Value.slice (cutAt bA oA ((xs.length / 2 : Nat) : Int).toNat c 1) (xs.length - ((xs.length / 2 : Nat) : Int).toNat) (c - ((xs.length / 2 : Nat) : Int).toNat) = Value.slice (cutAt bA oA (xs.length / 2) c 1) (xs.drop (xs.length / 2)).length (c - xs.length / 2) from by rw [Int.toNat_natCast, List.length_drop]) ?_
      refine RT.one (i := 4) (by kernel_rfl) rfl rfl ?_
      refine RS.call rfl (by rfl) ok134 (by rfl) (fun w ho => ih (xs.take (xs.length / 2)).length (by rw [List.length_take]; omega) (xs.take (xs.length / 2)) _ _ _ _ rfl (by rw [List.length_take]; omega) hx ((hA.take _).own ho) (ho.old hf)) ?_
      rintro _ _ ⟨r21, rfl, hr21, rfl⟩
      refine RS.nil ⟨(by repeat (first | exact List.Sublist.refl _ | exact List.nil_sublist _ | refine List.Sublist.cons_cons _ ?_ | refine List.Sublist.cons _ ?_ | exact Sbp.refl | exact Sbp.nil | refine Sbp.cons (by repeat (first | exact Rem.head | apply Rem.tail)) ?_ | exact Sbp.app | refine Sbp.skip ?_)), ?_⟩
      refine RT.one (i := 9) (by kernel_rfl) rfl rfl ?_
      refine RS.call rfl (by rfl) ok134 (by rfl) (fun w ho => ih (xs.drop (xs.length / 2)).length (by rw [List.length_drop]; omega) (xs.drop (xs.length / 2)) _ _ _ _ rfl (by rw [List.length_drop]; omega) (by unfold maxLen; omega) ((hA.drop _ hc).own ho) (ho.old hf)) ?_
      rintro _ _ ⟨r26, rfl, hr26, rfl⟩
      refine RS.nil ⟨(by repeat (first | exact List.Sublist.refl _ | exact List.nil_sublist _ | refine List.Sublist.cons_cons _ ?_ | refine List.Sublist.cons _ ?_ | exact Sbp.refl | exact Sbp.nil | refine Sbp.cons (by repeat (first | exact Rem.head | apply Rem.tail)) ?_ | exact Sbp.app | refine Sbp.skip ?_)), ?_⟩
      refine RT.one (i := 10) (by kernel_rfl) rfl rfl ?_
      refine RS.farith rfl (by rfl) (by rfl) (by simp) ?_
      intro r27 hr27
      refine RS.nil ⟨(by repeat (first | exact List.Sublist.refl _ | exact List.nil_sublist _ | refine List.Sublist.cons_cons _ ?_ | refine List.Sublist.cons _ ?_ | exact Sbp.refl | exact Sbp.nil | refine Sbp.cons (by repeat (first | exact Rem.head | apply Rem.tail)) ?_ | exact Sbp.app | refine Sbp.skip ?_)), ?_⟩
      refine RT.take (i := 11) rfl (by kernel_rfl) rfl (QO.assign) ?_
      refine RT.done (by kernel_rfl) ?_
      refine thenC_n ?_
      refine CS.ret ?_
      refine retQ.mk (H' := []) (.inr rfl) (RVs.tmp (by rfl) RVs.nil) (List.nil_sublist _) ?_
      exact ⟨r27, rfl, by rw [hr27.cl' (hr21.trans (cl_sum _).symm) (hr26.trans (cl_sum _).symm), ← sum_more hln], rfl⟩

set_option maxRecDepth 100000 in
theorem sum_ (xs : List Nat) (A : Option Addr) (n c : Nat) (W : World) (hn : xs.length = n) (hc : n ≤ c) (hx : c ≤ maxLen) (hA : FS W A xs) : Fn_ Tryd.prog 79 #[.slice A n c] W (fun v H => v = flt (Go.Proofs.YtapcgokcfmklbaaDoor.sum xs) ∧ H = []) := by
  subst hn
  refine Fn_.intro Tryd.func79 rfl rfl (by rfl) ?_
  refine CS.seq ?_
  refine CS.region ?_
  refine RS.q rfl (QO.assign) ?_
  refine RS.nil ?_
  refine thenC_n ?_
  refine CS.seq ?_
  refine CS.region ?_
  refine RS.alloc rfl ty128 ?_
  intro g3
  refine RS.nil ?_
  refine thenC_n ?_
  refine CS.seq ?_
  refine CS.region ?_
  refine RS.q rfl (QO.makeFunc) ?_
  refine RS.store1 ty128 rfl (by rfl) (by rfl) (by rfl) (by repeat (first | exact Upd.head | apply Upd.tail)) (by first | (simp; done) | (simp; omega) | omega) ?_
  refine RS.nil ?_
  refine thenC_n ?_
  refine CS.seq ?_
  refine CS.region ?_
  first | (refine RS.q rfl (QO.load ty128 (by rfl) (by repeat (first | exact List.Mem.head _ | refine List.Mem.tail _ ?_)) (by rfl)) ?_) | (refine RS.q rfl (QO.loadO ty128 (by rfl) (by assumption)) ?_) | (refine RS.q rfl (QO.load ty128 (by rfl) (by repeat (first | exact List.Mem.head _ | refine List.Mem.tail _ ?_)) (by assumption)) ?_)
  refine RS.q rfl (QO.move) ?_
  refine RS.call rfl (by rfl) ok134 (by rfl) (fun w ho => sum1 xs.length xs A c g3 _ rfl hc hx (hA.own ho) (by rw [(ho.blk _ (List.Mem.head _)).2.cell]; rfl)) ?_
  rintro _ _ ⟨r7, rfl, hr7, rfl⟩
  refine RS.call rfl (by rfl) ok75 (by rfl) (fun w ho => clean _ _) ?_
  rintro _ _ ⟨rfl, rfl⟩
  refine RS.q rfl (QO.assign) ?_
  refine RS.nil ?_
  refine thenC_n ?_
  refine CS.ret ?_
  refine retQ.mk (H' := []) (.inr rfl) (RVs.tmp (by rfl) RVs.nil) (List.nil_sublist _) ?_
  exact ⟨congrArg flt hr7, rfl⟩

theorem planeV_len (xs : List Nat) (ch : Int) (m : Nat) : (planeV xs ch m).length = m := by simp [planeV]
theorem PlaneR.ok {x y wi he : Int} {xs : List Nat} {ch : Int} {v : Value} {H : HL} (h : PlaneR x y wi he xs ch v H) (e : frErr x y wi he xs.length = 0) (h0 : 0 ≤ ch) (h3 : ch ≤ 3) :
    ∃ g, v = .tuple #[.slice (some ⟨g, 0, none⟩) (wi * he).toNat (wi * he).toNat, iv 0] ∧ H = [⟨g, 36, (planeV xs ch (wi * he).toNat).map flt⟩] := by
  rcases h with ⟨h, _⟩ | ⟨_, h, _⟩ | ⟨_, _, _, h⟩
  · exact absurd e h
  · omega
  · exact h
/-- the sum of a channel -/
def chanF (xs : List Nat) (m : Nat) (ch : Nat) : Nat := Go.Proofs.YtapcgokcfmklbaaDoor.sum (planeV xs (ch : Int) m)
theorem regErr_fit (x y wi he : Int) : regErr (clamp x) (clamp y) (1 + and7 wi) (1 + and7 he) = 0 := by
  have h1 := and7_bd wi
  have h2 := and7_bd he
  have h3 := clamp_bd x
  have h4 := clamp_bd y
  have h5 : (1 + and7 wi) * (1 + and7 he) ≤ 8 * 8 := Int.mul_le_mul (by omega) (by omega) (by omega) (by omega)
  unfold regErr outR
  rw [if_neg (by omega), if_neg (by omega), if_neg (by simp; omega)]
theorem fitN_eq (wi he : Int) : ((fitN wi he : Nat) : Int) = 4 * (1 + and7 wi) * (1 + and7 he) ∧ 4 * (1 + and7 wi) * (1 + and7 he) = 4 * ((1 + and7 wi) * (1 + and7 he)) ∧ 1 ≤ (1 + and7 wi) * (1 + and7 he) ∧ (1 + and7 wi) * (1 + and7 he) ≤ 64 := by
  have h1 := and7_bd wi
  have h2 := and7_bd he
  have h5 : (1 + and7 wi) * (1 + and7 he) ≤ 8 * 8 := Int.mul_le_mul (by omega) (by omega) (by omega) (by omega)
  have h6 : 1 * 1 ≤ (1 + and7 wi) * (1 + and7 he) := Int.mul_le_mul (by omega) (by omega) (by omega) (by omega)
  have h7 : 4 * (1 + and7 wi) * (1 + and7 he) = 4 * ((1 + and7 wi) * (1 + and7 he)) := Int.mul_assoc ..
  unfold fitN
  omega
theorem fitV_len (xs : List Nat) (wi he : Int) : (fitV xs wi he).length = fitN wi he := by simp [fitV]
theorem frErr_fit (x y wi he : Int) (xs : List Nat) : frErr (clamp x) (clamp y) (1 + and7 wi) (1 + and7 he) (fitV xs wi he).length = 0 := by
  have := fitN_eq wi he
  unfold frErr
  rw [regErr_fit, if_neg (by simp), fitV_len, if_neg (by omega)]

set_option maxRecDepth 100000 in
theorem total (x y wi he : Int) (A : Option Addr) (n c : Nat) (xs : List Nat) (W : World) (hn : xs.length = n) (hA : FS W A xs) (hok : frErr x y wi he xs.length = 0) : Fn_ Tryd.prog 21 #[.agg #[iv x, iv y, iv wi, iv he, .slice A n c]] W (fun v H => v = .tuple #[.agg #[flt (chanF xs (wi * he).toNat 0), flt (chanF xs (wi * he).toNat 1), flt (chanF xs (wi * he).toNat 2), flt (chanF xs (wi * he).toNat 3)], iv 0] ∧ H = []) := by
  subst hn
  obtain ⟨hr0, hn0⟩ := frErr_ok hok
  have hro := regErr_ok hr0
  refine Fn_.intro Tryd.func21 rfl rfl (by rfl) ?_
  refine CS.seq ?_
  refine CS.region ?_
  refine RS.box rfl (by rfl) (by rfl) ?_
  intro g1
  refine RS.alloc rfl ty38 ?_
  intro g2
  refine RS.q rfl (QO.assign) ?_
  refine RS.nil ?_
  refine thenC_n ?_
  refine CS.seq ?_
  refine CS.region ?_
  refine RS.alloc rfl ty38 ?_
  intro g4
  refine RS.nil ?_
  refine thenC_n ?_
  refine CS.seq ?_
  refine CS.seq ?_
  refine CS.region ?_
  refine RS.q rfl (QO.move) ?_
  refine RS.nil ?_
  refine thenC_n ?_
  refine CS.block ?_
  refine CS.loop (X := Nat) (3 :: 5 :: 6 :: 7 :: 8 :: 9 :: 10 :: 11 :: 12 :: 13 :: 14 :: 15 :: 16 :: 17 :: 18 :: 19 :: 20 :: 21 :: 22 :: 23 :: 24 :: 25 :: []) (fun k => [(8, iv k)]) (fun k => [⟨g4, 38, partL (chanF xs (wi * he).toNat) 4 k⟩, ⟨g2, 38, [flt 0, flt 0, flt 0, flt 0]⟩, ⟨g1, 34, [iv x, iv y, iv wi, iv he, .slice A xs.length c]⟩]) (fun k => k ≤ 4) (fun k => 4 - k) 0 (by omega) ?_ ?_ ?_
  · exact (by repeat (first | exact kn_nil | refine kn_cons (by rfl) ?_))
  · exact (by rw [partL_zero]; exact (by repeat (first | exact List.Sublist.refl _ | exact List.nil_sublist _ | refine List.Sublist.cons_cons _ ?_ | refine List.Sublist.cons _ ?_ | exact Sbp.refl | exact Sbp.nil | refine Sbp.cons (by repeat (first | exact Rem.head | apply Rem.tail)) ?_ | exact Sbp.app | refine Sbp.skip ?_)))
  · intro k gj3 hz
    refine CS.seq ?_
    refine CS.region ?_
    refine RS.q rfl (QO.lss (by rfl) (by rfl)) ?_
    refine RS.nil ?_
    refine thenC_n ?_
    refine CS.seq ?_
    refine CS.cond (by rfl) (fun hb0 => ?_) (fun hb0 => ?_)
    · have hb0p := of_decide_eq_true hb0
      refine CS.skip ?_
      refine thenC_n ?_
      refine CS.seq ?_
      refine CS.block ?_
      refine CS.seq ?_
      refine CS.region ?_
      refine RS.q rfl (QO.move) ?_
      refine RS.q rfl (QO.assign) ?_
      refine RS.nil ?_
      refine thenC_n ?_
      refine CS.seq ?_
      refine CS.region ?_
      first | (refine RS.q rfl (QO.loadB ty34 (by rfl) (by repeat (first | exact List.Mem.head _ | refine List.Mem.tail _ ?_)) (by rfl)) ?_) | (refine RS.q rfl (QO.loadA ty34 (by rfl) (by repeat (first | exact List.Mem.head _ | refine List.Mem.tail _ ?_)) (by rfl) (by rfl)) ?_) | (refine RS.q rfl (QO.loadOA ty34 (by rfl) (by assumption) (by rfl)) ?_)
      refine RS.q rfl (QO.move) ?_
      refine RS.call rfl (by rfl) ok78 (by rfl) (fun w ho => plane x y wi he A xs.length c xs _ w rfl (hA.own ho)) ?_
      intro v14 H14 hpl
      obtain ⟨gp, rfl, rfl⟩ := hpl.ok hok (by omega) (by omega)
      refine RS.q rfl (QO.move) ?_
      refine RS.q rfl (QO.extract (by rfl) (by rfl)) ?_
      refine RS.q rfl (QO.extract (by rfl) (by rfl)) ?_
      refine RS.q rfl (QO.assign) ?_
      refine RS.q rfl (QO.assign) ?_
      refine RS.nil ?_
      refine thenC_n ?_
      refine CS.seq ?_
      refine CS.seq ?_
      refine CS.region ?_
      refine RS.q rfl (QO.move) ?_
      refine RS.q rfl (QO.neq (by rfl) (by rfl)) ?_
      refine RS.nil ?_
      refine thenC_n ?_
      refine CS.condF (by rfl) rfl ?_
      refine CS.skip ?_
      refine thenC_n ?_
      refine CS.region ?_
      refine RS.q rfl (QO.move) ?_
      refine RS.q rfl (QO.move) ?_
      refine RS.call rfl (by rfl) ok79 (by rfl) (fun w ho => sum_ (planeV xs (k : Int) (wi * he).toNat) _ _ _ w (planeV_len _ _ _) (Nat.le_refl _) (by unfold maxLen; omega) (FS.blk' ho (by repeat (first | exact List.Mem.head _ | refine List.Mem.tail _ ?_)))) ?_
      rintro _ _ ⟨rfl, rfl⟩
      first | (refine RS.q rfl (QO.idxArr0 Tryd.underlying38 ty36 (by rfl) (by rfl) (by rfl) (by omega)) ?_) | (refine RS.q rfl (QO.idxArrn Tryd.underlying38 ty36 (by rfl) (by rfl) (by rfl) (by omega)) ?_) | (refine RS.q rfl (QO.idxArr Tryd.underlying38 ty36 (by rfl) (by rfl) (by omega) (by omega)) ?_)
      refine RS.store1e ty36 rfl (by rfl) (by rfl) (by rfl) (partL_set (chanF xs (wi * he).toNat) 4 k _ rfl (by omega)) (by repeat (first | exact Upd.head | apply Upd.tail)) (by rw [partL_len]; omega) ?_
      refine RS.nil ?_
      refine blockC_n ?_
      refine thenC_n ?_
      refine CS.region ?_
      first | (refine RS.q rfl (QO.add (by rfl) (by rfl) (by omega) (by omega)) ?_) | (refine RS.q rfl (QO.ibin (by rfl) (by rfl) trivial) ?_)
      refine RS.q rfl (QO.move) ?_
      refine RS.nil ?_
      refine loopQ_n (by intro t ht; repeat (first | with_reducible exact rfl | exact frame_puts ht (frame_mix ht) _ rfl | (refine frame_put rfl ht ?_) | (refine frame_puts ht ?_ _ rfl) | exact frame_mix ht | (refine frame_mix2 rfl ht ?_) | exact rfl)) ?_
      exact ⟨k + 1, by omega, by omega, (by repeat (first | exact kn_nil | refine kn_cons (by rfl) ?_)), (by repeat (first | exact List.Sublist.refl _ | exact List.nil_sublist _ | refine List.Sublist.cons_cons _ ?_ | refine List.Sublist.cons _ ?_ | exact Sbp.refl | exact Sbp.nil | refine Sbp.cons (by repeat (first | exact Rem.head | apply Rem.tail)) ?_ | exact Sbp.app | refine Sbp.skip ?_))⟩
    · have hb0p := of_decide_eq_false hb0
      refine CS.exit ?_
      refine thenC_x ?_
      refine loopQ_x ?_
      refine blockC_x ?_
      refine thenC_n ?_
      refine CS.seq ?_
      refine CS.region ?_
      obtain rfl : k = 4 := by omega
      first | (refine RS.q rfl (QO.loadB ty38 (by rfl) (by repeat (first | exact List.Mem.head _ | refine List.Mem.tail _ ?_)) (by rfl)) ?_) | (refine RS.q rfl (QO.loadA ty38 (by rfl) (by repeat (first | exact List.Mem.head _ | refine List.Mem.tail _ ?_)) (by rfl) (by rfl)) ?_) | (refine RS.q rfl (QO.loadOA ty38 (by rfl) (by assumption) (by rfl)) ?_)
      first | refine RS.storeB ty38 (by rfl) (by rfl) (by rfl) (by rfl) (by rfl) (by repeat (first | exact Upd.head | apply Upd.tail)) (by rfl) ?_ | refine RS.storeP ty38 (by rfl) (by rfl) (by rfl) (by rfl) (by rfl) (by repeat (first | exact Upd.head | apply Upd.tail)) (by rfl) ?_
      refine RS.q rfl (QO.assign) ?_
      refine RS.nil ?_
      refine thenC_n ?_
      refine CS.ret ?_
      refine retQ.mk (H' := []) (.inr rfl) (RVs.cellA ty38 (by rfl) (by repeat (first | exact List.Mem.head _ | refine List.Mem.tail _ ?_)) (by rfl) (RVs.tmp (by rfl) RVs.nil)) (List.nil_sublist _) ?_
      exact ⟨rfl, rfl⟩

end Go.Proofs.YtapcgokcfmklbaaDoor
