/-
  Contracts: TracksFind. Conditions: as each theorem says.
-/
import Derived.Test.YtplfeaikjgfhcaaC21
import Derived.Test.YtplfeaikjgfhcaaC5
namespace Go.Proofs.Ytplfeaikjgfhcaa
open Go Go.Proofs Go.RowKit

theorem ty103 : tyChk Try.prog 103 = some ([.int .i64 0, .int .i64 0], true, 16) := by kernel_rfl
theorem pl103 : places Try.prog 103 = some #[(0, 1), (1, 1)] := by kernel_rfl
theorem eqt103 : intsT Try.prog 103 = 2 := by kernel_rfl
theorem ok44 : callOK Try.prog 44 = true := by kernel_rfl
theorem ok81 : callOK Try.prog 81 = true := by kernel_rfl
theorem ok178 : callOK Try.prog 178 = true := by kernel_rfl
theorem ok179 : callOK Try.prog 179 = true := by kernel_rfl

theorem frErr_99 {X Y : Int} {n : Nat} (hn : n = 324) (hX : -2000 ≤ X ∧ X ≤ 2000) (hY : -2000 ≤ Y ∧ Y ≤ 2000) : frErr X Y 9 9 n = 0 := by
  have h : regErr X Y 9 9 = 0 := by
    unfold regErr
    rw [if_neg (by omega), if_neg (by omega), if_neg]
    rintro (h | h)
    all_goals
      unfold outR at h
      rw [Bool.or_eq_true, decide_eq_true_eq, decide_eq_true_eq] at h
      omega
  unfold frErr
  rw [h, if_neg (by simp), if_neg (by omega)]
theorem regErr_33 {X Y : Int} (hX : -2000 ≤ X ∧ X ≤ 2000) (hY : -2000 ≤ Y ∧ Y ≤ 2000) : regErr X Y 3 3 = 0 := by
  unfold regErr
  rw [if_neg (by omega), if_neg (by omega), if_neg]
  rintro (h | h)
  all_goals
    unfold outR at h
    rw [Bool.or_eq_true, decide_eq_true_eq, decide_eq_true_eq] at h
    omega
theorem ins_T {ax ay bx bz : Int} (h1 : bx ≤ ax) (h2 : bz ≤ ay) (h3 : ax ≤ bx + 6) (h4 : ay ≤ bz + 6) : insB ax ay 3 3 bx bz 9 9 = true := by
  unfold insB
  simp only [Bool.and_eq_true, decide_eq_true_eq]
  omega

set_option maxHeartbeats 4000000 in
set_option maxRecDepth 100000 in
theorem track (X Y : Int) (px py : Nat) (A : Option Addr) (n c : Nat) (xs : List Nat) (W : World) (hn : xs.length = n) (hA : FS W A xs) (hN : n = 324) (hxs : ∀ i, i < 324 → xs[i]? = some (pat i)) (hc : n ≤ c) (hcm : c ≤ maxLen) (hpx : px < 3) (hpy : py < 3) (hX : -1000 ≤ X ∧ X ≤ 1000) (hY : -1000 ≤ Y ∧ Y ≤ 1000) : Fn_ Try.prog 81 #[.agg #[iv X, iv Y, iv 9, iv 9, .slice A n c], .agg #[iv (X + ((px : Int) - 1)), iv (Y + ((py : Int) - 1)), iv 9, iv 9, .slice A n c], .agg #[iv (X + 3), iv (Y + 3), iv 3, iv 3], iv 1] W (fun v H => v = .tuple #[.agg #[iv ((px : Int) - 1), iv ((py : Int) - 1)], flt 0, iv 0] ∧ H = []) := by
  refine Fn_.intro Try.func81 rfl rfl (by rfl) ?_
  refine CS.seq ?_
  refine CS.region ?_
  refine RS.box rfl (by rfl) (by rfl) ?_
  intro g4
  refine RS.box rfl (by rfl) (by rfl) ?_
  intro g5
  refine RS.box rfl (by rfl) (by rfl) ?_
  intro g6
  refine RS.alloc rfl ty103 ?_
  intro g8
  refine RS.q rfl (QO.assign) ?_
  refine RS.q rfl (QO.assign) ?_
  refine RS.nil ?_
  refine thenC_n ?_
  refine CS.seq ?_
  refine CS.seq ?_
  refine CS.region ?_
  first | (refine RS.q rfl (QO.loadB ty26 (by rfl) (by repeat (first | exact List.Mem.head _ | refine List.Mem.tail _ ?_)) (by rfl)) ?_) | (refine RS.q rfl (QO.loadA ty26 (by rfl) (by repeat (first | exact List.Mem.head _ | refine List.Mem.tail _ ?_)) (by rfl) (by rfl)) ?_) | (refine RS.q rfl (QO.loadOA ty26 (by rfl) (by assumption) (by rfl)) ?_)
  first | (refine RS.q rfl (QO.loadB ty26 (by rfl) (by repeat (first | exact List.Mem.head _ | refine List.Mem.tail _ ?_)) (by rfl)) ?_) | (refine RS.q rfl (QO.loadA ty26 (by rfl) (by repeat (first | exact List.Mem.head _ | refine List.Mem.tail _ ?_)) (by rfl) (by rfl)) ?_) | (refine RS.q rfl (QO.loadOA ty26 (by rfl) (by assumption) (by rfl)) ?_)
  refine RS.call rfl (by rfl) ok178 (by rfl) (fun w ho => checkBoth X Y (X + ((px : Int) - 1)) (Y + ((py : Int) - 1)) A n c _ (frErr_99 hN (by omega) (by omega)) (frErr_99 hN (by omega) (by omega))) ?_
  rintro _ _ ⟨rfl, rfl⟩
  refine RS.q rfl (QO.assign) ?_
  refine RS.nil ?_
  refine thenC_n ?_
  refine CS.seq ?_
  refine CS.region ?_
  refine RS.q rfl (QO.move) ?_
  refine RS.q rfl (QO.neq (by rfl) (by rfl)) ?_
  refine RS.nil ?_
  refine thenC_n ?_
  refine CS.condF (by rfl) rfl ?_
  refine CS.skip ?_
  refine thenC_n ?_
  refine CS.seq ?_
  refine CS.seq ?_
  refine CS.region ?_
  first | (refine RS.q rfl (QO.loadB ty23 (by rfl) (by repeat (first | exact List.Mem.head _ | refine List.Mem.tail _ ?_)) (by rfl)) ?_) | (refine RS.q rfl (QO.loadA ty23 (by rfl) (by repeat (first | exact List.Mem.head _ | refine List.Mem.tail _ ?_)) (by rfl) (by rfl)) ?_) | (refine RS.q rfl (QO.loadOA ty23 (by rfl) (by assumption) (by rfl)) ?_)
  refine RS.call rfl (by rfl) ok36 (by rfl) (fun w ho => checkRegion _ _ _ _ _) ?_
  rintro _ _ ⟨rfl, rfl⟩
  refine RS.q rfl (QO.assign) ?_
  refine RS.nil ?_
  refine thenC_n ?_
  refine CS.seq ?_
  refine CS.region ?_
  refine RS.q rfl (QO.move) ?_
  refine RS.qv rfl (QO.neq (by rfl) (by rfl)) (congrArg Value.bool (show (regErr (X + 3) (Y + 3) 3 3 != 0) = false from by rw [regErr_33 (by omega) (by omega)]; rfl)) ?_
  refine RS.nil ?_
  refine thenC_n ?_
  refine CS.condF (by rfl) rfl ?_
  refine CS.skip ?_
  refine thenC_n ?_
  refine CS.seq ?_
  refine CS.seq ?_
  refine CS.region ?_
  first | (refine RS.q rfl (QO.loadB ty23 (by rfl) (by repeat (first | exact List.Mem.head _ | refine List.Mem.tail _ ?_)) (by rfl)) ?_) | (refine RS.q rfl (QO.loadA ty23 (by rfl) (by repeat (first | exact List.Mem.head _ | refine List.Mem.tail _ ?_)) (by rfl) (by rfl)) ?_) | (refine RS.q rfl (QO.loadOA ty23 (by rfl) (by assumption) (by rfl)) ?_)
  refine RS.q rfl (QO.fieldAddr fo26_0 (by rfl)) ?_
  first | (refine RS.q rfl (QO.loadB ty23 (by rfl) (by repeat (first | exact List.Mem.head _ | refine List.Mem.tail _ ?_)) (by rfl)) ?_) | (refine RS.q rfl (QO.loadA ty23 (by rfl) (by repeat (first | exact List.Mem.head _ | refine List.Mem.tail _ ?_)) (by rfl) (by rfl)) ?_) | (refine RS.q rfl (QO.loadOA ty23 (by rfl) (by assumption) (by rfl)) ?_)
  refine RS.call rfl (by rfl) ok44 (by rfl) (fun w ho => inside (X + 3) (Y + 3) 3 3 X Y 9 9 _ (by omega) (by omega) (by omega) (by omega) (by omega) (by omega) (by omega) (by omega)) ?_
  rintro _ _ ⟨rfl, rfl⟩
  refine RS.qv rfl (QO.not (by rfl)) (congrArg Value.bool (show (!insB (X + 3) (Y + 3) 3 3 X Y 9 9) = false from by rw [ins_T (by omega) (by omega) (by omega) (by omega)]; rfl)) ?_
  refine RS.nil ?_
  refine thenC_n ?_
  refine CS.condF (by rfl) rfl ?_
  refine CS.skip ?_
  refine thenC_n ?_
  refine CS.seq ?_
  refine CS.seq ?_
  refine CS.region ?_
  refine RS.q rfl (QO.move) ?_
  refine RS.q rfl (QO.lss (by rfl) (by rfl)) ?_
  refine RS.q rfl (QO.move) ?_
  refine RS.on (dj := 41) rfl (congrArg Value.bool (decide_eq_false (by omega))) ?_
  refine RS.q rfl (QO.move) ?_
  refine RS.on (dj := 41) rfl (congrArg Value.bool (decide_eq_false (by omega))) ?_
  refine RS.q rfl (QO.gtr (by rfl) (by rfl)) ?_
  refine RS.q rfl (QO.pickF (by rfl) (decide_eq_false (by omega)) (by rfl)) ?_
  refine RS.nil ?_
  refine thenC_n ?_
  refine CS.condF (by rfl) (decide_eq_false (by omega)) ?_
  refine CS.skip ?_
  refine thenC_n ?_
  refine CS.seq ?_
  refine CS.region ?_
  refine RS.q rfl (QO.assign) ?_
  refine RS.nil ?_
  refine thenC_n ?_
  refine CS.seq ?_
  refine CS.region ?_
  refine RS.alloc rfl ty103 ?_
  intro g14
  refine RS.nil ?_
  refine thenC_n ?_
  refine CS.seq ?_
  refine CS.region ?_
  refine RS.q rfl (QO.assign) ?_
  refine RS.nil ?_
  refine thenC_n ?_
  refine CS.cut (X := Unit) (13 :: 15 :: 16 :: 17 :: 18 :: 19 :: 46 :: 47 :: 48 :: 49 :: 50 :: 51 :: 52 :: 53 :: 54 :: 55 :: 56 :: 57 :: 58 :: 59 :: 60 :: 61 :: 62 :: 63 :: 64 :: 65 :: 66 :: 67 :: 68 :: 69 :: 70 :: 71 :: 72 :: 73 :: 74 :: 75 :: 76 :: 77 :: 78 :: 79 :: 80 :: 81 :: 82 :: 83 :: 84 :: 85 :: 86 :: 87 :: 88 :: 89 :: 90 :: 91 :: 92 :: 93 :: 94 :: 95 :: 96 :: 97 :: 98 :: 99 :: []) (fun z => [(13, .bool true), (15, flt 0)]) (fun z => [⟨g14, 103, [iv ((px : Int) - 1), iv ((py : Int) - 1)]⟩, ⟨g8, 103, [iv 0, iv 0]⟩, ⟨g6, 23, [iv (X + 3), iv (Y + 3), iv 3, iv 3]⟩, ⟨g5, 26, [iv (X + ((px : Int) - 1)), iv (Y + ((py : Int) - 1)), iv 9, iv 9, .slice A n c]⟩, ⟨g4, 26, [iv X, iv Y, iv 9, iv 9, .slice A n c]⟩]) (fun z => True) ?_ ?_
  · refine CS.seq ?_
    refine CS.region ?_
    refine RS.q rfl (QO.move) ?_
    refine RS.q rfl (QO.neg (by rfl) (by omega) (by omega)) ?_
    refine RS.q rfl (QO.assign) ?_
    refine RS.nil ?_
    refine thenC_n ?_
    refine CS.block ?_
    refine CS.loop (X := Nat × TS) (13 :: 15 :: 16 :: 17 :: 18 :: 19 :: 48 :: 49 :: 50 :: 51 :: 52 :: 53 :: 54 :: 55 :: 56 :: 57 :: 58 :: 59 :: 60 :: 61 :: 62 :: 63 :: 64 :: 65 :: 66 :: 67 :: 68 :: 69 :: 70 :: 71 :: 72 :: 73 :: 74 :: 75 :: 76 :: 77 :: 78 :: 79 :: 80 :: 81 :: 82 :: 83 :: 84 :: 85 :: 86 :: 87 :: 88 :: 89 :: 90 :: 91 :: 92 :: 93 :: 94 :: 95 :: 96 :: 97 :: 98 :: 99 :: []) (fun z => [(16, iv ((z.1 : Int) - 1)), (13, .bool z.2.fnd), (15, flt z.2.ls)]) (fun z => [⟨g14, 103, [iv z.2.bx, iv z.2.bz]⟩, ⟨g8, 103, [iv 0, iv 0]⟩, ⟨g6, 23, [iv (X + 3), iv (Y + 3), iv 3, iv 3]⟩, ⟨g5, 26, [iv (X + ((px : Int) - 1)), iv (Y + ((py : Int) - 1)), iv 9, iv 9, .slice A n c]⟩, ⟨g4, 26, [iv X, iv Y, iv 9, iv 9, .slice A n c]⟩]) (fun z => z.1 ≤ 3 ∧ TInv (3 * py + px) ((px : Int) - 1) ((py : Int) - 1) (3 * z.1) z.2) (fun z => 3 - z.1) (0, ⟨false, 0, 0, 0⟩) ⟨Nat.zero_le _, TInv.start _ _ _ _ rfl⟩ ?_ ?_ ?_
    · exact kn_cons (congrArg iv (show -(1 : Int) = ((0 : Nat) : Int) - 1 by omega)) (kn_cons (by rfl) (kn_cons (by rfl) kn_nil))
    · exact (by repeat (first | exact List.Sublist.refl _ | exact List.nil_sublist _ | refine List.Sublist.cons_cons _ ?_ | refine List.Sublist.cons _ ?_ | exact Sbp.refl | exact Sbp.nil | refine Sbp.cons (by repeat (first | exact Rem.head | apply Rem.tail)) ?_ | exact Sbp.app | refine Sbp.skip ?_))
    · intro z gj15 hz
      obtain ⟨qy, s⟩ := z
      obtain ⟨hqy, hinv⟩ := hz
      simp only at hqy hinv
      show CS _ _ _ _ _ (puts (mix _ _ _) [(16, iv ((qy : Int) - 1)), (13, .bool s.fnd), (15, flt s.ls)]) ([⟨g14, 103, [iv s.bx, iv s.bz]⟩, ⟨g8, 103, [iv 0, iv 0]⟩, ⟨g6, 23, [iv (X + 3), iv (Y + 3), iv 3, iv 3]⟩, ⟨g5, 26, [iv (X + ((px : Int) - 1)), iv (Y + ((py : Int) - 1)), iv 9, iv 9, .slice A n c]⟩, ⟨g4, 26, [iv X, iv Y, iv 9, iv 9, .slice A n c]⟩])
      refine CS.seq ?_
      refine CS.seq ?_
      refine CS.region ?_
      refine RS.q rfl (QO.move) ?_
      refine RS.q rfl (QO.move) ?_
      refine RS.q rfl (QO.leq (by rfl) (by rfl)) ?_
      refine RS.nil ?_
      refine thenC_n ?_
      refine CS.cond (by rfl) (fun hb0 => ?_) (fun hb0 => ?_)
      · have hb0p := of_decide_eq_true hb0
        refine CS.skip ?_
        refine thenC_n ?_
        refine CS.seq ?_
        refine CS.block ?_
        refine CS.seq ?_
        refine CS.region ?_
        refine RS.q rfl (QO.move) ?_
        refine RS.q rfl (QO.neg (by rfl) (by omega) (by omega)) ?_
        refine RS.q rfl (QO.assign) ?_
        refine RS.nil ?_
        refine thenC_n ?_
        refine CS.block ?_
        refine CS.loop (X := Nat × TS) (13 :: 15 :: 17 :: 18 :: 19 :: 55 :: 56 :: 57 :: 58 :: 59 :: 60 :: 61 :: 62 :: 63 :: 64 :: 65 :: 66 :: 67 :: 68 :: 69 :: 70 :: 71 :: 72 :: 73 :: 74 :: 75 :: 76 :: 77 :: 78 :: 79 :: 80 :: 81 :: 82 :: 83 :: 84 :: 85 :: 86 :: 87 :: 88 :: 89 :: 90 :: 91 :: 92 :: 93 :: 94 :: 95 :: 96 :: 97 :: 98 :: 99 :: []) (fun z => [(17, iv ((z.1 : Int) - 1)), (13, .bool z.2.fnd), (15, flt z.2.ls)]) (fun z => [⟨g14, 103, [iv z.2.bx, iv z.2.bz]⟩, ⟨g8, 103, [iv 0, iv 0]⟩, ⟨g6, 23, [iv (X + 3), iv (Y + 3), iv 3, iv 3]⟩, ⟨g5, 26, [iv (X + ((px : Int) - 1)), iv (Y + ((py : Int) - 1)), iv 9, iv 9, .slice A n c]⟩, ⟨g4, 26, [iv X, iv Y, iv 9, iv 9, .slice A n c]⟩]) (fun z => z.1 ≤ 3 ∧ TInv (3 * py + px) ((px : Int) - 1) ((py : Int) - 1) (3 * qy + z.1) z.2) (fun z => 3 - z.1) (0, s) ⟨Nat.zero_le _, hinv⟩ ?_ ?_ ?_
        · exact kn_cons (congrArg iv (show -(1 : Int) = ((0 : Nat) : Int) - 1 by omega)) (kn_cons (by rfl) (kn_cons (by rfl) kn_nil))
        · exact (by repeat (first | exact List.Sublist.refl _ | exact List.nil_sublist _ | refine List.Sublist.cons_cons _ ?_ | refine List.Sublist.cons _ ?_ | exact Sbp.refl | exact Sbp.nil | refine Sbp.cons (by repeat (first | exact Rem.head | apply Rem.tail)) ?_ | exact Sbp.app | refine Sbp.skip ?_))
        · intro z gj18 hz
          clear hinv
          obtain ⟨qx, s⟩ := z
          obtain ⟨hqx, hinv⟩ := hz
          simp only at hqx hinv
          show CS _ _ _ _ _ (puts (mix _ _ _) [(17, iv ((qx : Int) - 1)), (13, .bool s.fnd), (15, flt s.ls)]) ([⟨g14, 103, [iv s.bx, iv s.bz]⟩, ⟨g8, 103, [iv 0, iv 0]⟩, ⟨g6, 23, [iv (X + 3), iv (Y + 3), iv 3, iv 3]⟩, ⟨g5, 26, [iv (X + ((px : Int) - 1)), iv (Y + ((py : Int) - 1)), iv 9, iv 9, .slice A n c]⟩, ⟨g4, 26, [iv X, iv Y, iv 9, iv 9, .slice A n c]⟩])
          refine CS.seq ?_
          refine CS.seq ?_
          refine CS.region ?_
          refine RS.q rfl (QO.move) ?_
          refine RS.q rfl (QO.move) ?_
          refine RS.q rfl (QO.leq (by rfl) (by rfl)) ?_
          refine RS.nil ?_
          refine thenC_n ?_
          refine CS.cond (by rfl) (fun hb1 => ?_) (fun hb1 => ?_)
          · have hb1p := of_decide_eq_true hb1
            refine CS.skip ?_
            refine thenC_n ?_
            refine CS.seq ?_
            refine CS.block ?_
            refine CS.seq ?_
            refine CS.region ?_
            first | (refine RS.q rfl (QO.loadB ty23 (by rfl) (by repeat (first | exact List.Mem.head _ | refine List.Mem.tail _ ?_)) (by rfl)) ?_) | (refine RS.q rfl (QO.loadA ty23 (by rfl) (by repeat (first | exact List.Mem.head _ | refine List.Mem.tail _ ?_)) (by rfl) (by rfl)) ?_) | (refine RS.q rfl (QO.loadOA ty23 (by rfl) (by assumption) (by rfl)) ?_)
            refine RS.alloc rfl ty23 ?_
            intro g18
            first | refine RS.storeB ty23 (by rfl) (by rfl) (by rfl) (by rfl) (by rfl) (by repeat (first | exact Upd.head | apply Upd.tail)) (by rfl) ?_ | refine RS.storeP ty23 (by rfl) (by rfl) (by rfl) (by rfl) (by rfl) (by repeat (first | exact Upd.head | apply Upd.tail)) (by rfl) ?_
            refine RS.nil ?_
            refine thenC_n ?_
            refine CS.seq ?_
            refine CS.region ?_
            refine RS.q rfl (QO.fieldAddr fo23_0 (by rfl)) ?_
            first | (refine RS.q rfl (QO.load ty3 (by rfl) (by repeat (first | exact List.Mem.head _ | refine List.Mem.tail _ ?_)) (by rfl)) ?_) | (refine RS.q rfl (QO.loadO ty3 (by rfl) (by assumption)) ?_) | (refine RS.q rfl (QO.load ty3 (by rfl) (by repeat (first | exact List.Mem.head _ | refine List.Mem.tail _ ?_)) (by assumption)) ?_)
            refine RS.q rfl (QO.move) ?_
            first | (refine RS.q rfl (QO.add (by rfl) (by rfl) (by omega) (by omega)) ?_) | (refine RS.q rfl (QO.ibin (by rfl) (by rfl) trivial) ?_)
            refine RS.q rfl (QO.fieldAddr fo23_0 (by rfl)) ?_
            refine RS.store1 ty3 rfl (by rfl) (by rfl) (by rfl) (by repeat (first | exact Upd.head | apply Upd.tail)) (by first | (simp; done) | (simp; omega) | omega) ?_
            refine RS.nil ?_
            refine thenC_n ?_
            refine CS.seq ?_
            refine CS.region ?_
            refine RS.q rfl (QO.fieldAddr fo23_1 (by rfl)) ?_
            first | (refine RS.q rfl (QO.load ty3 (by rfl) (by repeat (first | exact List.Mem.head _ | refine List.Mem.tail _ ?_)) (by rfl)) ?_) | (refine RS.q rfl (QO.loadO ty3 (by rfl) (by assumption)) ?_) | (refine RS.q rfl (QO.load ty3 (by rfl) (by repeat (first | exact List.Mem.head _ | refine List.Mem.tail _ ?_)) (by assumption)) ?_)
            refine RS.q rfl (QO.move) ?_
            first | (refine RS.q rfl (QO.add (by rfl) (by rfl) (by omega) (by omega)) ?_) | (refine RS.q rfl (QO.ibin (by rfl) (by rfl) trivial) ?_)
            refine RS.q rfl (QO.fieldAddr fo23_1 (by rfl)) ?_
            refine RS.store1 ty3 rfl (by rfl) (by rfl) (by rfl) (by repeat (first | exact Upd.head | apply Upd.tail)) (by first | (simp; done) | (simp; omega) | omega) ?_
            refine RS.nil ?_
            refine thenC_n ?_
            refine CS.seq ?_
            refine CS.seq ?_
            refine CS.region ?_
            first | (refine RS.q rfl (QO.loadB ty23 (by rfl) (by repeat (first | exact List.Mem.head _ | refine List.Mem.tail _ ?_)) (by rfl)) ?_) | (refine RS.q rfl (QO.loadA ty23 (by rfl) (by repeat (first | exact List.Mem.head _ | refine List.Mem.tail _ ?_)) (by rfl) (by rfl)) ?_) | (refine RS.q rfl (QO.loadOA ty23 (by rfl) (by assumption) (by rfl)) ?_)
            refine RS.q rfl (QO.fieldAddr fo26_0 (by rfl)) ?_
            first | (refine RS.q rfl (QO.loadB ty23 (by rfl) (by repeat (first | exact List.Mem.head _ | refine List.Mem.tail _ ?_)) (by rfl)) ?_) | (refine RS.q rfl (QO.loadA ty23 (by rfl) (by repeat (first | exact List.Mem.head _ | refine List.Mem.tail _ ?_)) (by rfl) (by rfl)) ?_) | (refine RS.q rfl (QO.loadOA ty23 (by rfl) (by assumption) (by rfl)) ?_)
            refine RS.call rfl (by rfl) ok44 (by rfl) (fun w ho => inside (X + 3 + ((qx : Int) - 1)) (Y + 3 + ((qy : Int) - 1)) 3 3 (X + ((px : Int) - 1)) (Y + ((py : Int) - 1)) 9 9 _ (by omega) (by omega) (by omega) (by omega) (by omega) (by omega) (by omega) (by omega)) ?_
            rintro _ _ ⟨rfl, rfl⟩
            refine RS.qv rfl (QO.not (by rfl)) (congrArg Value.bool (show (!insB (X + 3 + ((qx : Int) - 1)) (Y + 3 + ((qy : Int) - 1)) 3 3 (X + ((px : Int) - 1)) (Y + ((py : Int) - 1)) 9 9) = false from by rw [ins_T (by omega) (by omega) (by omega) (by omega)]; rfl)) ?_
            refine RS.nil ?_
            refine thenC_n ?_
            refine CS.condF (by rfl) rfl ?_
            refine CS.skip ?_
            refine thenC_n ?_
            refine CS.seq ?_
            refine CS.region ?_
            first | (refine RS.q rfl (QO.loadB ty26 (by rfl) (by repeat (first | exact List.Mem.head _ | refine List.Mem.tail _ ?_)) (by rfl)) ?_) | (refine RS.q rfl (QO.loadA ty26 (by rfl) (by repeat (first | exact List.Mem.head _ | refine List.Mem.tail _ ?_)) (by rfl) (by rfl)) ?_) | (refine RS.q rfl (QO.loadOA ty26 (by rfl) (by assumption) (by rfl)) ?_)
            first | (refine RS.q rfl (QO.loadB ty26 (by rfl) (by repeat (first | exact List.Mem.head _ | refine List.Mem.tail _ ?_)) (by rfl)) ?_) | (refine RS.q rfl (QO.loadA ty26 (by rfl) (by repeat (first | exact List.Mem.head _ | refine List.Mem.tail _ ?_)) (by rfl) (by rfl)) ?_) | (refine RS.q rfl (QO.loadOA ty26 (by rfl) (by assumption) (by rfl)) ?_)
            first | (refine RS.q rfl (QO.loadB ty23 (by rfl) (by repeat (first | exact List.Mem.head _ | refine List.Mem.tail _ ?_)) (by rfl)) ?_) | (refine RS.q rfl (QO.loadA ty23 (by rfl) (by repeat (first | exact List.Mem.head _ | refine List.Mem.tail _ ?_)) (by rfl) (by rfl)) ?_) | (refine RS.q rfl (QO.loadOA ty23 (by rfl) (by assumption) (by rfl)) ?_)
            refine RS.q rfl (QO.move) ?_
            refine RS.q rfl (QO.neg (by rfl) (by omega) (by omega)) ?_
            refine RS.q rfl (QO.move) ?_
            refine RS.q rfl (QO.neg (by rfl) (by omega) (by omega)) ?_
            refine RS.call rfl (by rfl) ok179 (by rfl) (fun w ho => compared X Y (X + ((px : Int) - 1)) (Y + ((py : Int) - 1)) (-((qx : Int) - 1)) (-((qy : Int) - 1)) (qx + 2 - px) (qy + 2 - py) A n c xs _ hn (hA.own ho) hN hxs hc hcm (by omega) (by omega) (by omega) (by omega) (by omega) (by omega) (by omega) (by omega) (by omega) (by omega)) ?_
            rintro _ _ ⟨rfl, rfl⟩
            refine RS.q rfl (QO.assign) ?_
            refine RS.nil ?_
            refine thenC_n ?_
            refine CS.seq ?_
            refine CS.seq ?_
            refine CS.region ?_
            have h86 : fcmpB .neq (cmpR (qx + 2 - px) (qy + 2 - py)) (cmpR (qx + 2 - px) (qy + 2 - py)) = false := (fneq_self _).trans (cmpR_all _ (by omega) _ (by omega)).1
            refine RS.q rfl (QO.move) ?_
            refine RS.q rfl (QO.move) ?_
            refine RS.q rfl (QO.fcmp32 (by rfl) (by rfl) (by simp)) ?_
            refine RS.nil ?_
            refine thenC_n ?_
            refine CS.condF (by rfl) h86 ?_
            refine CS.skip ?_
            refine thenC_n ?_
            refine CS.seq ?_
            refine CS.region ?_
            refine RS.q rfl (QO.move) ?_
            refine RS.q rfl (QO.not (by rfl)) ?_
            refine RS.q rfl (QO.move) ?_
            refine RS.split (dj := 91) (by rfl) (fun hb2 => ?_) (fun hb2 => ?_)
            · have hb2p := Eq.mp (Bool.not_eq_true' _) hb2
              refine RS.off (dj := 91) rfl (.inl (congrArg Value.bool hb2)) (fun _ => rfl) rfl ?_
              refine RS.off (dj := 91) rfl (.inl (congrArg Value.bool hb2)) (fun _ => rfl) rfl ?_
              refine RS.off (dj := 91) rfl (.inl (congrArg Value.bool hb2)) (fun _ => rfl) rfl ?_
              refine RS.q rfl (QO.pickT (by rfl) hb2 (by rfl)) ?_
              refine RS.nil ?_
              refine thenC_n ?_
              refine CS.condT (by rfl) rfl ?_
              refine CS.region ?_
              refine RS.q rfl (QO.move) ?_
              refine RS.q rfl (QO.move) ?_
              refine RS.qv rfl (QO.build ty103 pl103 (by rfl)) ((show _ = Value.agg #[iv ((qx : Int) - 1), iv ((qy : Int) - 1)] from rfl)) ?_
              refine RS.q rfl (QO.move) ?_
              refine RS.q rfl (QO.assign) ?_
              first | refine RS.storeB ty103 (by rfl) (by rfl) (by rfl) (by rfl) (by rfl) (by repeat (first | exact Upd.head | apply Upd.tail)) (by rfl) ?_ | refine RS.storeP ty103 (by rfl) (by rfl) (by rfl) (by rfl) (by rfl) (by repeat (first | exact Upd.head | apply Upd.tail)) (by rfl) ?_
              refine RS.q rfl (QO.assign) ?_
              refine RS.nil ?_
              refine blockC_n ?_
              refine thenC_n ?_
              refine CS.region ?_
              refine RS.q rfl (QO.move) ?_
              first | (refine RS.q rfl (QO.add (by rfl) (by rfl) (by omega) (by omega)) ?_) | (refine RS.q rfl (QO.ibin (by rfl) (by rfl) trivial) ?_)
              refine RS.q rfl (QO.assign) ?_
              refine RS.nil ?_
              refine loopQ_n (by intro t ht; repeat (first | with_reducible exact rfl | exact frame_puts ht (frame_mix ht) _ rfl | (refine frame_put rfl ht ?_) | (refine frame_puts ht ?_ _ rfl) | exact frame_mix ht | (refine frame_mix2 rfl ht ?_) | exact rfl)) ?_
              have hx1 := (TInv.step hpx hpy (by omega) (by omega) rfl hinv).1 (.inl (by assumption))
              exact ⟨(qx + 1, (⟨true, (qx : Int) - 1, (qy : Int) - 1, (cmpR (qx + 2 - px) (qy + 2 - py))⟩ : TS)), ⟨by show qx + 1 ≤ 3; omega, hx1⟩, by show 3 - (qx + 1) < 3 - qx; omega, kn_cons (congrArg iv (show (qx : Int) - 1 + 1 = ((qx + 1 : Nat) : Int) - 1 by omega)) (kn_cons (by rfl) (kn_cons (by rfl) kn_nil)), (by repeat (first | exact List.Sublist.refl _ | exact List.nil_sublist _ | refine List.Sublist.cons_cons _ ?_ | refine List.Sublist.cons _ ?_ | exact Sbp.refl | exact Sbp.nil | refine Sbp.cons (by repeat (first | exact Rem.head | apply Rem.tail)) ?_ | exact Sbp.app | refine Sbp.skip ?_))⟩
            · have hb2p := Eq.mp (Bool.not_eq_false' _) hb2
              refine RS.on (dj := 91) rfl (congrArg Value.bool hb2) ?_
              refine RS.q rfl (QO.move) ?_
              refine RS.on (dj := 91) rfl (congrArg Value.bool hb2) ?_
              refine RS.q rfl (QO.move) ?_
              refine RS.on (dj := 91) rfl (congrArg Value.bool hb2) ?_
              refine RS.q rfl (QO.fcmp32 (by rfl) (by rfl) (by simp)) ?_
              refine RS.q rfl (QO.pickF (by rfl) hb2 (by rfl)) ?_
              refine RS.nil ?_
              refine thenC_n ?_
              refine CS.cond (by rfl) (fun hb3 => ?_) (fun hb3 => ?_)
              · refine CS.region ?_
                refine RS.q rfl (QO.move) ?_
                refine RS.q rfl (QO.move) ?_
                refine RS.qv rfl (QO.build ty103 pl103 (by rfl)) ((show _ = Value.agg #[iv ((qx : Int) - 1), iv ((qy : Int) - 1)] from rfl)) ?_
                refine RS.q rfl (QO.move) ?_
                refine RS.q rfl (QO.assign) ?_
                first | refine RS.storeB ty103 (by rfl) (by rfl) (by rfl) (by rfl) (by rfl) (by repeat (first | exact Upd.head | apply Upd.tail)) (by rfl) ?_ | refine RS.storeP ty103 (by rfl) (by rfl) (by rfl) (by rfl) (by rfl) (by repeat (first | exact Upd.head | apply Upd.tail)) (by rfl) ?_
                refine RS.q rfl (QO.assign) ?_
                refine RS.nil ?_
                refine blockC_n ?_
                refine thenC_n ?_
                refine CS.region ?_
                refine RS.q rfl (QO.move) ?_
                first | (refine RS.q rfl (QO.add (by rfl) (by rfl) (by omega) (by omega)) ?_) | (refine RS.q rfl (QO.ibin (by rfl) (by rfl) trivial) ?_)
                refine RS.q rfl (QO.assign) ?_
                refine RS.nil ?_
                refine loopQ_n (by intro t ht; repeat (first | with_reducible exact rfl | exact frame_puts ht (frame_mix ht) _ rfl | (refine frame_put rfl ht ?_) | (refine frame_puts ht ?_ _ rfl) | exact frame_mix ht | (refine frame_mix2 rfl ht ?_) | exact rfl)) ?_
                have hx1 := (TInv.step hpx hpy (by omega) (by omega) rfl hinv).1 (.inr (by assumption))
                exact ⟨(qx + 1, (⟨true, (qx : Int) - 1, (qy : Int) - 1, (cmpR (qx + 2 - px) (qy + 2 - py))⟩ : TS)), ⟨by show qx + 1 ≤ 3; omega, hx1⟩, by show 3 - (qx + 1) < 3 - qx; omega, kn_cons (congrArg iv (show (qx : Int) - 1 + 1 = ((qx + 1 : Nat) : Int) - 1 by omega)) (kn_cons (by rfl) (kn_cons (by rfl) kn_nil)), (by repeat (first | exact List.Sublist.refl _ | exact List.nil_sublist _ | refine List.Sublist.cons_cons _ ?_ | refine List.Sublist.cons _ ?_ | exact Sbp.refl | exact Sbp.nil | refine Sbp.cons (by repeat (first | exact Rem.head | apply Rem.tail)) ?_ | exact Sbp.app | refine Sbp.skip ?_))⟩
              · refine CS.skip ?_
                refine blockC_n ?_
                refine thenC_n ?_
                refine CS.region ?_
                refine RS.q rfl (QO.move) ?_
                first | (refine RS.q rfl (QO.add (by rfl) (by rfl) (by omega) (by omega)) ?_) | (refine RS.q rfl (QO.ibin (by rfl) (by rfl) trivial) ?_)
                refine RS.q rfl (QO.assign) ?_
                refine RS.nil ?_
                refine loopQ_n (by intro t ht; repeat (first | with_reducible exact rfl | exact frame_puts ht (frame_mix ht) _ rfl | (refine frame_put rfl ht ?_) | (refine frame_puts ht ?_ _ rfl) | exact frame_mix ht | (refine frame_mix2 rfl ht ?_) | exact rfl)) ?_
                have hx1 := (TInv.step hpx hpy (by omega) (by omega) rfl hinv).2 (by assumption) (by assumption)
                exact ⟨(qx + 1, s), ⟨by show qx + 1 ≤ 3; omega, hx1⟩, by show 3 - (qx + 1) < 3 - qx; omega, kn_cons (congrArg iv (show (qx : Int) - 1 + 1 = ((qx + 1 : Nat) : Int) - 1 by omega)) (kn_cons (by rfl) (kn_cons (by rfl) kn_nil)), (by repeat (first | exact List.Sublist.refl _ | exact List.nil_sublist _ | refine List.Sublist.cons_cons _ ?_ | refine List.Sublist.cons _ ?_ | exact Sbp.refl | exact Sbp.nil | refine Sbp.cons (by repeat (first | exact Rem.head | apply Rem.tail)) ?_ | exact Sbp.app | refine Sbp.skip ?_))⟩
          · have hb1p := of_decide_eq_false hb1
            refine CS.exit ?_
            refine thenC_x ?_
            refine loopQ_x ?_
            refine blockC_x ?_
            refine blockC_n ?_
            refine thenC_n ?_
            refine CS.region ?_
            refine RS.q rfl (QO.move) ?_
            first | (refine RS.q rfl (QO.add (by rfl) (by rfl) (by omega) (by omega)) ?_) | (refine RS.q rfl (QO.ibin (by rfl) (by rfl) trivial) ?_)
            refine RS.q rfl (QO.assign) ?_
            refine RS.nil ?_
            refine loopQ_n (by intro t ht; repeat (first | with_reducible exact rfl | exact frame_puts ht (frame_mix ht) _ rfl | (refine frame_put rfl ht ?_) | (refine frame_puts ht ?_ _ rfl) | exact frame_mix ht | (refine frame_mix2 rfl ht ?_) | exact rfl)) ?_
            have e9 : 3 * qy + qx = 3 * (qy + 1) := by omega
            rw [e9] at hinv
            exact ⟨(qy + 1, s), ⟨by show qy + 1 ≤ 3; omega, hinv⟩, by show 3 - (qy + 1) < 3 - qy; omega, kn_cons (congrArg iv (show (qy : Int) - 1 + 1 = ((qy + 1 : Nat) : Int) - 1 by omega)) (kn_cons (by rfl) (kn_cons (by rfl) kn_nil)), (by repeat (first | exact List.Sublist.refl _ | exact List.nil_sublist _ | refine List.Sublist.cons_cons _ ?_ | refine List.Sublist.cons _ ?_ | exact Sbp.refl | exact Sbp.nil | refine Sbp.cons (by repeat (first | exact Rem.head | apply Rem.tail)) ?_ | exact Sbp.app | refine Sbp.skip ?_))⟩
      · have hb0p := of_decide_eq_false hb0
        refine CS.exit ?_
        refine thenC_x ?_
        refine loopQ_x ?_
        refine blockC_x ?_
        refine cutQ_n (by intro t ht; repeat (first | with_reducible exact rfl | exact frame_puts ht (frame_mix ht) _ rfl | (refine frame_put rfl ht ?_) | (refine frame_puts ht ?_ _ rfl) | exact frame_mix ht | (refine frame_mix2 rfl ht ?_) | exact rfl)) ?_
        have hq3 : 3 * qy = 9 := by omega
        rw [hq3] at hinv
        have hx9 := TInv.done hpx hpy hinv
        obtain ⟨h1, h2, h3, h4⟩ := hx9
        exact ⟨(), trivial, kn_cons (congrArg Value.bool h1) (kn_cons (congrArg flt h4) kn_nil), (by rw [h2, h3]; exact (by repeat (first | exact List.Sublist.refl _ | exact List.nil_sublist _ | refine List.Sublist.cons_cons _ ?_ | refine List.Sublist.cons _ ?_ | exact Sbp.refl | exact Sbp.nil | refine Sbp.cons (by repeat (first | exact Rem.head | apply Rem.tail)) ?_ | exact Sbp.app | refine Sbp.skip ?_)))⟩
  · intro z gj hz
    refine CS.seq ?_
    refine CS.seq ?_
    refine CS.region ?_
    refine RS.q rfl (QO.move) ?_
    refine RS.q rfl (QO.not (by rfl)) ?_
    refine RS.nil ?_
    refine thenC_n ?_
    refine CS.condF (by rfl) rfl ?_
    refine CS.skip ?_
    refine thenC_n ?_
    refine CS.seq ?_
    refine CS.region ?_
    first | (refine RS.q rfl (QO.loadB ty103 (by rfl) (by repeat (first | exact List.Mem.head _ | refine List.Mem.tail _ ?_)) (by rfl)) ?_) | (refine RS.q rfl (QO.loadA ty103 (by rfl) (by repeat (first | exact List.Mem.head _ | refine List.Mem.tail _ ?_)) (by rfl) (by rfl)) ?_) | (refine RS.q rfl (QO.loadOA ty103 (by rfl) (by assumption) (by rfl)) ?_)
    refine RS.q rfl (QO.move) ?_
    first | refine RS.storeB ty103 (by rfl) (by rfl) (by rfl) (by rfl) (by rfl) (by repeat (first | exact Upd.head | apply Upd.tail)) (by rfl) ?_ | refine RS.storeP ty103 (by rfl) (by rfl) (by rfl) (by rfl) (by rfl) (by repeat (first | exact Upd.head | apply Upd.tail)) (by rfl) ?_
    refine RS.q rfl (QO.assign) ?_
    refine RS.q rfl (QO.assign) ?_
    refine RS.nil ?_
    refine thenC_n ?_
    refine CS.ret ?_
    refine retQ.mk (H' := []) (.inr rfl) (RVs.cellA ty103 (by rfl) (by repeat (first | exact List.Mem.head _ | refine List.Mem.tail _ ?_)) (by rfl) (RVs.tmp (by rfl) (RVs.tmp (by rfl) RVs.nil))) (List.nil_sublist _) ?_
    exact ⟨rfl, rfl⟩

theorem pat_at (i : Nat) (hi : i < 324) : ((List.range 324).map pat)[i]? = some (pat i) := by
  rw [List.getElem?_map, List.getElem?_range hi]; rfl

set_option maxHeartbeats 4000000 in
set_option maxRecDepth 100000 in
theorem tracksFind (fx fy fw fh : Int) (A : Option Addr) (n c : Nat) (xs : List Nat) (dx dy : Int) (W : World) (hn : xs.length = n) (hA : FS W A xs) (hlx : n ≤ maxLen) : Fn_ Try.prog 14 #[.agg #[iv fx, iv fy, iv fw, iv fh, .slice A n c], iv dx, iv dy] W (fun v H => v = .bool true ∧ H = []) := by
  obtain ⟨px, hpx, hpe, hpb⟩ := third dx
  obtain ⟨py, hpy, hpe2, hpb2⟩ := third dy
  have hcx := clamp_bd fx
  have hcy := clamp_bd fy
  refine Fn_.intro Try.func14 rfl rfl (by rfl) ?_
  refine CS.seq ?_
  refine CS.region ?_
  refine RS.box rfl (by rfl) (by rfl) ?_
  intro g3
  refine RS.q rfl (QO.assign) ?_
  refine RS.nil ?_
  refine thenC_n ?_
  refine CS.seq ?_
  refine CS.seq ?_
  refine CS.region ?_
  refine RS.call rfl (by rfl) ok19 (by rfl) (fun w ho => landed _) ?_
  rintro _ _ ⟨rfl, rfl⟩
  refine RS.q rfl (QO.not (by rfl)) ?_
  refine RS.nil ?_
  refine thenC_n ?_
  refine CS.condF (by rfl) rfl ?_
  refine CS.skip ?_
  refine thenC_n ?_
  refine CS.seq ?_
  refine CS.region ?_
  first | (refine RS.q rfl (QO.loadB ty26 (by rfl) (by repeat (first | exact List.Mem.head _ | refine List.Mem.tail _ ?_)) (by rfl)) ?_) | (refine RS.q rfl (QO.loadA ty26 (by rfl) (by repeat (first | exact List.Mem.head _ | refine List.Mem.tail _ ?_)) (by rfl) (by rfl)) ?_) | (refine RS.q rfl (QO.loadOA ty26 (by rfl) (by assumption) (by rfl)) ?_)
  refine RS.call rfl (by rfl) ok20 (by rfl) (fun w ho => fit fx fy fw fh A n c xs _ hn (hA.own ho) hlx) ?_
  rintro _ _ ⟨gf, rfl, rfl⟩
  first | refine RS.storeB ty26 (by rfl) (by rfl) (by rfl) (by rfl) (by rfl) (by repeat (first | exact Upd.head | apply Upd.tail)) (by rfl) ?_ | refine RS.storeP ty26 (by rfl) (by rfl) (by rfl) (by rfl) (by rfl) (by repeat (first | exact Upd.head | apply Upd.tail)) (by rfl) ?_
  refine RS.nil ?_
  refine thenC_n ?_
  refine CS.seq ?_
  refine CS.region ?_
  refine RS.q rfl (QO.fieldAddr fo26_0 (by rfl)) ?_
  refine RS.q rfl (QO.fieldAddr fo23_2 (by rfl)) ?_
  refine RS.store1 ty3 rfl (by rfl) (by rfl) (by rfl) (by repeat (first | exact Upd.head | apply Upd.tail)) (by first | (simp; done) | (simp; omega) | omega) ?_
  refine RS.q rfl (QO.fieldAddr fo26_0 (by rfl)) ?_
  refine RS.q rfl (QO.fieldAddr fo23_3 (by rfl)) ?_
  refine RS.store1 ty3 rfl (by rfl) (by rfl) (by rfl) (by repeat (first | exact Upd.head | apply Upd.tail)) (by first | (simp; done) | (simp; omega) | omega) ?_
  refine RS.nil ?_
  refine thenC_n ?_
  refine CS.seq ?_
  refine CS.region ?_
  refine RS.make rfl Try.underlying24 ty33 (by rfl) (by rfl) (by omega) (by omega) (by omega) (by omega) ?_
  intro g21
  refine RS.q rfl (QO.fieldAddr fo26_1 (by rfl)) ?_
  refine RS.store1 ty24 rfl (by rfl) (by rfl) (by rfl) (by repeat (first | exact Upd.head | apply Upd.tail)) (by first | (simp; done) | (simp; omega) | omega) ?_
  refine RS.nil ?_
  refine thenC_n ?_
  refine CS.cut (X := Unit) (7 :: 23 :: 24 :: 25 :: 26 :: 27 :: 28 :: 29 :: 30 :: 31 :: 32 :: 33 :: 34 :: 35 :: 36 :: 37 :: 38 :: 39 :: 40 :: 41 :: 42 :: 43 :: 44 :: 45 :: []) (fun z => []) (fun z => [⟨g3, 26, [iv (clamp fx), iv (clamp fy), iv 9, iv 9, .slice (some ⟨g21, 0, none⟩) 324 324]⟩, ⟨g21, 33, ((List.range 324).map pat).map flt⟩]) (fun z => True) ?_ ?_
  · refine CS.seq ?_
    refine CS.region ?_
    refine RS.q rfl (QO.fieldAddr fo26_1 (by rfl)) ?_
    first | (refine RS.q rfl (QO.load ty24 (by rfl) (by repeat (first | exact List.Mem.head _ | refine List.Mem.tail _ ?_)) (by rfl)) ?_) | (refine RS.q rfl (QO.loadO ty24 (by rfl) (by assumption)) ?_) | (refine RS.q rfl (QO.load ty24 (by rfl) (by repeat (first | exact List.Mem.head _ | refine List.Mem.tail _ ?_)) (by assumption)) ?_)
    refine RS.q rfl (QO.lenS Try.underlying24 (by rfl)) ?_
    refine RS.q rfl (QO.move) ?_
    refine RS.nil ?_
    refine thenC_n ?_
    refine CS.block ?_
    refine CS.loop (X := Nat) (7 :: 26 :: 27 :: 28 :: 29 :: 30 :: 31 :: 32 :: 33 :: 34 :: 35 :: 36 :: 37 :: 38 :: 39 :: 40 :: 41 :: 42 :: 43 :: 44 :: 45 :: []) (fun k => [(26, iv (k : Int))]) (fun k => [⟨g3, 26, [iv (clamp fx), iv (clamp fy), iv 9, iv 9, .slice (some ⟨g21, 0, none⟩) 324 324]⟩, ⟨g21, 33, partL pat 324 k⟩]) (fun k => k ≤ 324) (fun k => 324 - k) 0 (Nat.zero_le _) ?_ ?_ ?_
    · exact (by repeat (first | exact kn_nil | refine kn_cons (by rfl) ?_))
    · exact (by rw [partL_zero]; exact (by repeat (first | exact List.Sublist.refl _ | exact List.nil_sublist _ | refine List.Sublist.cons_cons _ ?_ | refine List.Sublist.cons _ ?_ | exact Sbp.refl | exact Sbp.nil | refine Sbp.cons (by repeat (first | exact Rem.head | apply Rem.tail)) ?_ | exact Sbp.app | refine Sbp.skip ?_)))
    · intro k gj7 hz
      refine CS.seq ?_
      refine CS.region ?_
      refine RS.q rfl (QO.lss (by rfl) (by rfl)) ?_
      refine RS.nil ?_
      refine thenC_n ?_
      refine CS.seq ?_
      refine CS.cond (by rfl) (fun hb0 => ?_) (fun hb0 => ?_)
      · have hb0p := of_decide_eq_true hb0
        refine CS.skip ?_
        refine thenC_n ?_
        refine CS.seq ?_
        refine CS.block ?_
        refine CS.seq ?_
        refine CS.region ?_
        refine RS.q rfl (QO.move) ?_
        refine RS.q rfl (QO.assign) ?_
        refine RS.nil ?_
        refine thenC_n ?_
        refine CS.region ?_
        have hx1 : ∃ m, k * k = m := ⟨_, rfl⟩
        obtain ⟨m, hm⟩ := hx1
        have hmk : (k : Int) * (k : Int) = (m : Int) := by rw [← hm]; exact (Int.natCast_mul ..).symm
        have hmb := Nat.mul_le_mul (show k ≤ 324 by omega) (show k ≤ 324 by omega)
        refine RS.q rfl (QO.fieldAddr fo26_1 (by rfl)) ?_
        first | (refine RS.q rfl (QO.load ty24 (by rfl) (by repeat (first | exact List.Mem.head _ | refine List.Mem.tail _ ?_)) (by rfl)) ?_) | (refine RS.q rfl (QO.loadO ty24 (by rfl) (by assumption)) ?_) | (refine RS.q rfl (QO.load ty24 (by rfl) (by repeat (first | exact List.Mem.head _ | refine List.Mem.tail _ ?_)) (by assumption)) ?_)
        refine RS.q rfl (QO.move) ?_
        refine RS.q rfl (QO.move) ?_
        refine RS.q rfl (QO.move) ?_
        refine RS.qv rfl (QO.mul (by rfl) (by rfl) (by rw [hmk]; omega) (by rw [hmk]; omega)) (congrArg iv hmk) ?_
        first | (refine RS.q rfl (QO.mul (by rfl) (by rfl) (by omega) (by omega)) ?_) | (refine RS.q rfl (QO.ibin (by rfl) (by rfl) trivial) ?_)
        refine RS.q rfl (QO.move) ?_
        first | (refine RS.q rfl (QO.mul (by rfl) (by rfl) (by omega) (by omega)) ?_) | (refine RS.q rfl (QO.ibin (by rfl) (by rfl) trivial) ?_)
        first | (refine RS.q rfl (QO.add (by rfl) (by rfl) (by omega) (by omega)) ?_) | (refine RS.q rfl (QO.ibin (by rfl) (by rfl) trivial) ?_)
        refine RS.qv rfl (QO.rem (by rfl) (by rfl) (by omega)) (congrArg iv (show ((m : Int) * 7 + (k : Int) * 13).tmod 251 = (((k * k * 7 + k * 13) % 251 : Nat) : Int) from by have h9 : (m : Int) * 7 + (k : Int) * 13 = ((k * k * 7 + k * 13 : Nat) : Int) := (by rw [hm]; omega); rw [h9]; exact tmod_cast _ 251)) ?_
        refine RS.q rfl (QO.conv_i64_f32 Try.underlying3 Try.underlying33 (by rfl)) ?_
        refine RS.q rfl (QO.move) ?_
        refine RS.q rfl (QO.conv_i64_f32 Try.underlying3 Try.underlying33 (by rfl)) ?_
        refine RS.farith rfl (by rfl) (by rfl) (by simp) ?_
        intro r43 hr43
        first | (refine RS.q rfl (QO.idx0 Try.underlying24 ty33 (by rfl) (by rfl) (by rfl) (by omega)) ?_) | (refine RS.q rfl (QO.idxn Try.underlying24 ty33 (by rfl) (by rfl) (by rfl) (by omega)) ?_) | (refine RS.q rfl (QO.idx1 Try.underlying24 ty33 (by rfl) (by rfl) (by omega) (by omega)) ?_)
        refine RS.store1e ty33 rfl (by rfl) (by rfl) (by rfl) (partL_set pat 324 k _ (by rw [pat_add k (by omega)] at hr43; exact hr43) (by omega)) (by repeat (first | exact Upd.head | apply Upd.tail)) (by rw [partL_len]; omega) ?_
        refine RS.nil ?_
        refine blockC_n ?_
        refine thenC_n ?_
        refine CS.region ?_
        first | (refine RS.q rfl (QO.add (by rfl) (by rfl) (by omega) (by omega)) ?_) | (refine RS.q rfl (QO.ibin (by rfl) (by rfl) trivial) ?_)
        refine RS.q rfl (QO.move) ?_
        refine RS.nil ?_
        refine loopQ_n (by intro t ht; repeat (first | with_reducible exact rfl | exact frame_puts ht (frame_mix ht) _ rfl | (refine frame_put rfl ht ?_) | (refine frame_puts ht ?_ _ rfl) | exact frame_mix ht | (refine frame_mix2 rfl ht ?_) | exact rfl)) ?_
        exact ⟨k + 1, by omega, by omega, (by repeat (first | exact kn_nil | refine kn_cons (by rfl) ?_)), (by repeat (first | exact List.Sublist.refl _ | exact List.nil_sublist _ | refine List.Sublist.cons_cons _ ?_ | refine List.Sublist.cons _ ?_ | exact Sbp.refl | exact Sbp.nil | refine Sbp.cons (by repeat (first | exact Rem.head | apply Rem.tail)) ?_ | exact Sbp.app | refine Sbp.skip ?_))⟩
      · have hb0p := of_decide_eq_false hb0
        refine CS.exit ?_
        refine thenC_x ?_
        refine loopQ_x ?_
        refine blockC_x ?_
        refine cutQ_n (by intro t ht; repeat (first | with_reducible exact rfl | exact frame_puts ht (frame_mix ht) _ rfl | (refine frame_put rfl ht ?_) | (refine frame_puts ht ?_ _ rfl) | exact frame_mix ht | (refine frame_mix2 rfl ht ?_) | exact rfl)) ?_
        exact ⟨(), trivial, (by repeat (first | exact kn_nil | refine kn_cons (by rfl) ?_)), (by obtain rfl : k = 324 := (by omega); rw [partL_full]; exact (by repeat (first | exact List.Sublist.refl _ | exact List.nil_sublist _ | refine List.Sublist.cons_cons _ ?_ | refine List.Sublist.cons _ ?_ | exact Sbp.refl | exact Sbp.nil | refine Sbp.cons (by repeat (first | exact Rem.head | apply Rem.tail)) ?_ | exact Sbp.app | refine Sbp.skip ?_)))⟩
  · intro z gj hz
    refine CS.seq ?_
    refine CS.region ?_
    refine RS.q rfl (QO.move) ?_
    refine RS.q rfl (QO.rem (by rfl) (by rfl) (by omega)) ?_
    first | (refine RS.q rfl (QO.add (by rfl) (by rfl) (by omega) (by omega)) ?_) | (refine RS.q rfl (QO.ibin (by rfl) (by rfl) trivial) ?_)
    refine RS.q rfl (QO.rem (by rfl) (by rfl) (by omega)) ?_
    first | (refine RS.qv rfl (QO.sub (by rfl) (by rfl) (by omega) (by omega)) (congrArg iv hpe) ?_) | (refine RS.qv rfl (QO.ibin (by rfl) (by rfl) trivial) (congrArg iv hpe) ?_)
    refine RS.q rfl (QO.move) ?_
    refine RS.q rfl (QO.rem (by rfl) (by rfl) (by omega)) ?_
    first | (refine RS.q rfl (QO.add (by rfl) (by rfl) (by omega) (by omega)) ?_) | (refine RS.q rfl (QO.ibin (by rfl) (by rfl) trivial) ?_)
    refine RS.q rfl (QO.rem (by rfl) (by rfl) (by omega)) ?_
    first | (refine RS.qv rfl (QO.sub (by rfl) (by rfl) (by omega) (by omega)) (congrArg iv hpe2) ?_) | (refine RS.qv rfl (QO.ibin (by rfl) (by rfl) trivial) (congrArg iv hpe2) ?_)
    refine RS.q rfl (QO.assign) ?_
    refine RS.q rfl (QO.assign) ?_
    refine RS.nil ?_
    refine thenC_n ?_
    refine CS.seq ?_
    refine CS.region ?_
    first | (refine RS.q rfl (QO.loadB ty26 (by rfl) (by repeat (first | exact List.Mem.head _ | refine List.Mem.tail _ ?_)) (by rfl)) ?_) | (refine RS.q rfl (QO.loadA ty26 (by rfl) (by repeat (first | exact List.Mem.head _ | refine List.Mem.tail _ ?_)) (by rfl) (by rfl)) ?_) | (refine RS.q rfl (QO.loadOA ty26 (by rfl) (by assumption) (by rfl)) ?_)
    refine RS.alloc rfl ty26 ?_
    intro g8
    first | refine RS.storeB ty26 (by rfl) (by rfl) (by rfl) (by rfl) (by rfl) (by repeat (first | exact Upd.head | apply Upd.tail)) (by rfl) ?_ | refine RS.storeP ty26 (by rfl) (by rfl) (by rfl) (by rfl) (by rfl) (by repeat (first | exact Upd.head | apply Upd.tail)) (by rfl) ?_
    refine RS.nil ?_
    refine thenC_n ?_
    refine CS.seq ?_
    refine CS.drawS (HS := [⟨g3, 26, [iv (clamp fx), iv (clamp fy), iv 9, iv 9, .slice (some ⟨g21, 0, none⟩) 324 324]⟩, ⟨g21, 33, ((List.range 324).map pat).map flt⟩]) 16 (by repeat (first | exact List.Sublist.refl _ | exact List.nil_sublist _ | refine List.Sublist.cons_cons _ ?_ | refine List.Sublist.cons _ ?_ | exact Sbp.refl | exact Sbp.nil | refine Sbp.cons (by repeat (first | exact Rem.head | apply Rem.tail)) ?_ | exact Sbp.app | refine Sbp.skip ?_)) rfl (by kernel_rfl) (by kernel_rfl) ?_
    refine RT.take (i := 0) rfl (by kernel_rfl) rfl (QO.fieldAddr fo26_0 (by rfl)) ?_
    refine RT.take (i := 1) rfl (by kernel_rfl) rfl (QO.fieldAddr fo23_0 (by rfl)) ?_
    first | (refine RT.take (i := 2) rfl (by kernel_rfl) rfl (QO.load ty3 (by rfl) (by repeat (first | exact List.Mem.head _ | refine List.Mem.tail _ ?_)) (by rfl)) ?_) | (refine RT.take (i := 2) rfl (by kernel_rfl) rfl (QO.loadO ty3 (by rfl) (by assumption)) ?_) | (refine RT.take (i := 2) rfl (by kernel_rfl) rfl (QO.load ty3 (by rfl) (by repeat (first | exact List.Mem.head _ | refine List.Mem.tail _ ?_)) (by assumption)) ?_)
    refine RT.take (i := 3) rfl (by kernel_rfl) rfl (QO.move) ?_
    first | (refine RT.take (i := 4) rfl (by kernel_rfl) rfl (QO.add (by rfl) (by rfl) (by omega) (by omega)) ?_) | (refine RT.take (i := 4) rfl (by kernel_rfl) rfl (QO.ibin (by rfl) (by rfl) trivial) ?_)
    refine RT.take (i := 5) rfl (by kernel_rfl) rfl (QO.fieldAddr fo26_0 (by rfl)) ?_
    refine RT.take (i := 6) rfl (by kernel_rfl) rfl (QO.fieldAddr fo23_1 (by rfl)) ?_
    first | (refine RT.take (i := 7) rfl (by kernel_rfl) rfl (QO.load ty3 (by rfl) (by repeat (first | exact List.Mem.head _ | refine List.Mem.tail _ ?_)) (by rfl)) ?_) | (refine RT.take (i := 7) rfl (by kernel_rfl) rfl (QO.loadO ty3 (by rfl) (by assumption)) ?_) | (refine RT.take (i := 7) rfl (by kernel_rfl) rfl (QO.load ty3 (by rfl) (by repeat (first | exact List.Mem.head _ | refine List.Mem.tail _ ?_)) (by assumption)) ?_)
    refine RT.take (i := 8) rfl (by kernel_rfl) rfl (QO.move) ?_
    first | (refine RT.take (i := 9) rfl (by kernel_rfl) rfl (QO.add (by rfl) (by rfl) (by omega) (by omega)) ?_) | (refine RT.take (i := 9) rfl (by kernel_rfl) rfl (QO.ibin (by rfl) (by rfl) trivial) ?_)
    refine RT.take (i := 10) rfl (by kernel_rfl) rfl (QO.fieldAddr fo26_0 (by rfl)) ?_
    refine RT.take (i := 11) rfl (by kernel_rfl) rfl (QO.fieldAddr fo23_0 (by rfl)) ?_
    refine RT.one (i := 12) (by kernel_rfl) rfl rfl ?_
    refine RS.store1 ty3 rfl (by rfl) (by rfl) (by rfl) (by repeat (first | exact Upd.head | apply Upd.tail)) (by first | (simp; done) | (simp; omega) | omega) ?_
    refine RS.nil ⟨(by repeat (first | exact List.Sublist.refl _ | exact List.nil_sublist _ | refine List.Sublist.cons_cons _ ?_ | refine List.Sublist.cons _ ?_ | exact Sbp.refl | exact Sbp.nil | refine Sbp.cons (by repeat (first | exact Rem.head | apply Rem.tail)) ?_ | exact Sbp.app | refine Sbp.skip ?_)), ?_⟩
    refine RT.take (i := 13) rfl (by kernel_rfl) rfl (QO.fieldAddr fo26_0 (by rfl)) ?_
    refine RT.take (i := 14) rfl (by kernel_rfl) rfl (QO.fieldAddr fo23_1 (by rfl)) ?_
    refine RT.one (i := 15) (by kernel_rfl) rfl rfl ?_
    refine RS.store1 ty3 rfl (by rfl) (by rfl) (by rfl) (by repeat (first | exact Upd.head | apply Upd.tail)) (by first | (simp; done) | (simp; omega) | omega) ?_
    refine RS.nil ⟨(by repeat (first | exact List.Sublist.refl _ | exact List.nil_sublist _ | refine List.Sublist.cons_cons _ ?_ | refine List.Sublist.cons _ ?_ | exact Sbp.refl | exact Sbp.nil | refine Sbp.cons (by repeat (first | exact Rem.head | apply Rem.tail)) ?_ | exact Sbp.app | refine Sbp.skip ?_)), ?_⟩
    refine RT.done (by kernel_rfl) ?_
    refine thenC_n ?_
    refine CS.seq ?_
    refine CS.region ?_
    refine RS.q rfl (QO.fieldAddr fo26_0 (by rfl)) ?_
    refine RS.q rfl (QO.fieldAddr fo23_0 (by rfl)) ?_
    first | (refine RS.q rfl (QO.load ty3 (by rfl) (by repeat (first | exact List.Mem.head _ | refine List.Mem.tail _ ?_)) (by rfl)) ?_) | (refine RS.q rfl (QO.loadO ty3 (by rfl) (by assumption)) ?_) | (refine RS.q rfl (QO.load ty3 (by rfl) (by repeat (first | exact List.Mem.head _ | refine List.Mem.tail _ ?_)) (by assumption)) ?_)
    first | (refine RS.q rfl (QO.add (by rfl) (by rfl) (by omega) (by omega)) ?_) | (refine RS.q rfl (QO.ibin (by rfl) (by rfl) trivial) ?_)
    refine RS.q rfl (QO.fieldAddr fo26_0 (by rfl)) ?_
    refine RS.q rfl (QO.fieldAddr fo23_1 (by rfl)) ?_
    first | (refine RS.q rfl (QO.load ty3 (by rfl) (by repeat (first | exact List.Mem.head _ | refine List.Mem.tail _ ?_)) (by rfl)) ?_) | (refine RS.q rfl (QO.loadO ty3 (by rfl) (by assumption)) ?_) | (refine RS.q rfl (QO.load ty3 (by rfl) (by repeat (first | exact List.Mem.head _ | refine List.Mem.tail _ ?_)) (by assumption)) ?_)
    first | (refine RS.q rfl (QO.add (by rfl) (by rfl) (by omega) (by omega)) ?_) | (refine RS.q rfl (QO.ibin (by rfl) (by rfl) trivial) ?_)
    refine RS.qv rfl (QO.build ty23 pl23 (by rfl)) ((show _ = Value.agg #[iv (clamp fx + 3), iv (clamp fy + 3), iv 3, iv 3] from rfl)) ?_
    refine RS.alloc rfl ty23 ?_
    intro g9
    first | refine RS.storeB ty23 (by rfl) (by rfl) (by rfl) (by rfl) (by rfl) (by repeat (first | exact Upd.head | apply Upd.tail)) (by rfl) ?_ | refine RS.storeP ty23 (by rfl) (by rfl) (by rfl) (by rfl) (by rfl) (by repeat (first | exact Upd.head | apply Upd.tail)) (by rfl) ?_
    refine RS.nil ?_
    refine thenC_n ?_
    refine CS.seq ?_
    refine CS.region ?_
    first | (refine RS.q rfl (QO.loadB ty26 (by rfl) (by repeat (first | exact List.Mem.head _ | refine List.Mem.tail _ ?_)) (by rfl)) ?_) | (refine RS.q rfl (QO.loadA ty26 (by rfl) (by repeat (first | exact List.Mem.head _ | refine List.Mem.tail _ ?_)) (by rfl) (by rfl)) ?_) | (refine RS.q rfl (QO.loadOA ty26 (by rfl) (by assumption) (by rfl)) ?_)
    first | (refine RS.q rfl (QO.loadB ty26 (by rfl) (by repeat (first | exact List.Mem.head _ | refine List.Mem.tail _ ?_)) (by rfl)) ?_) | (refine RS.q rfl (QO.loadA ty26 (by rfl) (by repeat (first | exact List.Mem.head _ | refine List.Mem.tail _ ?_)) (by rfl) (by rfl)) ?_) | (refine RS.q rfl (QO.loadOA ty26 (by rfl) (by assumption) (by rfl)) ?_)
    first | (refine RS.q rfl (QO.loadB ty23 (by rfl) (by repeat (first | exact List.Mem.head _ | refine List.Mem.tail _ ?_)) (by rfl)) ?_) | (refine RS.q rfl (QO.loadA ty23 (by rfl) (by repeat (first | exact List.Mem.head _ | refine List.Mem.tail _ ?_)) (by rfl) (by rfl)) ?_) | (refine RS.q rfl (QO.loadOA ty23 (by rfl) (by assumption) (by rfl)) ?_)
    refine RS.call rfl (by rfl) ok81 (by rfl) (fun w ho => track (clamp fx) (clamp fy) px py _ 324 324 ((List.range 324).map pat) _ (by simp) (FS.blk' ho (by repeat (first | exact List.Mem.head _ | refine List.Mem.tail _ ?_))) rfl pat_at (Nat.le_refl _) (by unfold maxLen; omega) hpx hpy (clamp_bd fx) (clamp_bd fy)) ?_
    rintro _ _ ⟨rfl, rfl⟩
    refine RS.q rfl (QO.move) ?_
    refine RS.q rfl (QO.extract (by rfl) (by rfl)) ?_
    refine RS.q rfl (QO.extract (by rfl) (by rfl)) ?_
    refine RS.q rfl (QO.extract (by rfl) (by rfl)) ?_
    refine RS.alloc rfl ty103 ?_
    intro g10
    first | refine RS.storeB ty103 (by rfl) (by rfl) (by rfl) (by rfl) (by rfl) (by repeat (first | exact Upd.head | apply Upd.tail)) (by rfl) ?_ | refine RS.storeP ty103 (by rfl) (by rfl) (by rfl) (by rfl) (by rfl) (by repeat (first | exact Upd.head | apply Upd.tail)) (by rfl) ?_
    refine RS.q rfl (QO.assign) ?_
    refine RS.q rfl (QO.assign) ?_
    refine RS.nil ?_
    refine thenC_n ?_
    refine CS.seq ?_
    refine CS.region ?_
    refine RS.q rfl (QO.move) ?_
    refine RS.q rfl (QO.eql (by rfl) (by rfl)) ?_
    refine RS.q rfl (QO.move) ?_
    refine RS.on (dj := 90) rfl (congrArg Value.bool rfl) ?_
    refine RS.q rfl (QO.move) ?_
    refine RS.on (dj := 90) rfl (congrArg Value.bool rfl) ?_
    refine RS.q rfl (QO.fcmp32 (by rfl) (by rfl) (by simp)) ?_
    refine RS.q rfl (QO.pickT (by rfl) rfl (by rfl)) ?_
    refine RS.q rfl (QO.move) ?_
    refine RS.on (dj := 94) rfl (congrArg Value.bool zero_zero) ?_
    first | (refine RS.q rfl (QO.loadB ty103 (by rfl) (by repeat (first | exact List.Mem.head _ | refine List.Mem.tail _ ?_)) (by rfl)) ?_) | (refine RS.q rfl (QO.loadA ty103 (by rfl) (by repeat (first | exact List.Mem.head _ | refine List.Mem.tail _ ?_)) (by rfl) (by rfl)) ?_) | (refine RS.q rfl (QO.loadOA ty103 (by rfl) (by assumption) (by rfl)) ?_)
    refine RS.on (dj := 94) rfl (congrArg Value.bool zero_zero) ?_
    refine RS.q rfl (QO.move) ?_
    refine RS.on (dj := 94) rfl (congrArg Value.bool zero_zero) ?_
    refine RS.q rfl (QO.move) ?_
    refine RS.on (dj := 94) rfl (congrArg Value.bool zero_zero) ?_
    refine RS.qv rfl (QO.build ty103 pl103 (by rfl)) ((show _ = Value.agg #[iv ((px : Int) - 1), iv ((py : Int) - 1)] from rfl)) ?_
    refine RS.on (dj := 94) rfl (congrArg Value.bool zero_zero) ?_
    refine RS.qv rfl (QO.seql (zs := [(px : Int) - 1, (py : Int) - 1]) (ws := [(px : Int) - 1, (py : Int) - 1]) eqt103 (by decide) (by rfl) (by rfl) rfl rfl) (congrArg Value.bool (beq_self_eq_true _)) ?_
    refine RS.q rfl (QO.pickT (by rfl) zero_zero (by rfl)) ?_
    refine RS.q rfl (QO.assign) ?_
    refine RS.nil ?_
    refine thenC_n ?_
    refine CS.ret ?_
    refine retQ.mk (H' := []) (.inr rfl) (RVs.tmp (by rfl) RVs.nil) (List.nil_sublist _) ?_
    exact ⟨rfl, rfl⟩

end Go.Proofs.Ytplfeaikjgfhcaa
