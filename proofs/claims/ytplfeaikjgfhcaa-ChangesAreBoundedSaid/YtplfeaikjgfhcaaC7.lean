/-
  Contract: ChangesAreBounded. Conditions: as the theorem says.
-/
import Derived.Test.YtplfeaikjgfhcaaC6
namespace Go.Proofs.Ytplfeaikjgfhcaa
open Go Go.Proofs Go.RowKit

theorem ok21 : callOK Try.prog 21 = true := by kernel_rfl
theorem ok22 : callOK Try.prog 22 = true := by kernel_rfl
theorem ok24 : callOK Try.prog 24 = true := by kernel_rfl
theorem ok25 : callOK Try.prog 25 = true := by kernel_rfl

theorem nsame_T {ys zs : List Nat} {i k : Nat} (h : (!sameK ys zs i k) = true) : true = !sameK ys zs i (k + 1) := by
  rw [← sameK_F (by simpa using h)]; rfl
theorem nsame_F {ys zs : List Nat} {i k : Nat} (h : (!sameK ys zs i k) = false) {p q : Nat} (hp : p = ys.getD (4 * i + k) 0) (hq : q = zs.getD (4 * i + k) 0) : (!(((cl p : Nat) : Int) == (cl q : Nat))) = !sameK ys zs i (k + 1) := by
  subst hp hq
  rw [sameK_T (by simpa using h)]
theorem pixF_in {xs : List Nat} {X Y : Int} {a b i j : Nat} (hi : i < a) (hj : j < b) (c : Nat) : pixF xs X Y a b (X + i) (Y + j) c = xs.getD (4 * (a * j + i) + c) 0 := by
  rw [pixF_at (i := i) (j := j) (near_in (by omega) (by omega)) (near_in (by omega) (by omega)), Nat.mul_comm a j]

set_option maxRecDepth 100000 in
theorem changesAreBounded (x y wi he x2 y2 wi2 he2 : Int) (A A2 : Option Addr) (n c n2 c2 : Nat) (xs xs2 : List Nat) (W : World) (hn : xs.length = n) (hA : FS W A xs) (hlx : n ≤ maxLen) (hn2 : xs2.length = n2) (hA2 : FS W A2 xs2) (hlx2 : n2 ≤ maxLen) : Fn_ Try.prog 3 #[.agg #[iv x, iv y, iv wi, iv he, .slice A n c], .agg #[iv x2, iv y2, iv wi2, iv he2, .slice A2 n2 c2]] W (fun v H => v = .bool true ∧ H = []) := by
  refine Fn_.intro Try.func3 rfl rfl (by rfl) ?_
  refine CS.seq ?_
  refine CS.region ?_
  refine RS.box rfl (by rfl) (by rfl) ?_
  intro g2
  refine RS.box rfl (by rfl) (by rfl) ?_
  intro g3
  refine RS.q rfl (QO.assign) ?_
  refine RS.nil ?_
  refine thenC_n ?_
  refine CS.seq ?_
  refine CS.seq ?_
  refine CS.region ?_
  refine RS.call rfl (by rfl) ok19 (by rfl) (fun w ho => landed _) ?_
  rintro _ _ ⟨rfl, rfl⟩
  refine RS.q rfl (QO.not (by rfl)) ?_
  refine RS.nil ?_
  refine thenC_n ?_
  refine CS.condF (by rfl) rfl ?_
  refine CS.skip ?_
  refine thenC_n ?_
  refine CS.seq ?_
  refine CS.region ?_
  first | (refine RS.q rfl (QO.loadB ty26 (by rfl) (by repeat (first | exact List.Mem.head _ | refine List.Mem.tail _ ?_)) (by rfl)) ?_) | (refine RS.q rfl (QO.loadA ty26 (by rfl) (by repeat (first | exact List.Mem.head _ | refine List.Mem.tail _ ?_)) (by rfl) (by rfl)) ?_) | (refine RS.q rfl (QO.loadOA ty26 (by rfl) (by assumption) (by rfl)) ?_)
  refine RS.call rfl (by rfl) ok20 (by rfl) (fun w ho => fit' x y wi he A n c xs w hn (hA.own ho) hlx) ?_
  intro v18 H18 h18
  obtain ⟨gf, X, Y, a, b, ys, rfl, rfl, hys, ha, hb, hX, hY, hab⟩ := h18
  have hcast : ((a * b : Nat) : Int) = (a : Int) * (b : Int) := Int.natCast_mul ..
  have h41 : 4 * (a : Int) * (b : Int) = 4 * ((a : Int) * (b : Int)) := Int.mul_assoc ..
  first | refine RS.storeB ty26 (by rfl) (by rfl) (by rfl) (by rfl) (by rfl) (by repeat (first | exact Upd.head | apply Upd.tail)) (by rfl) ?_ | refine RS.storeP ty26 (by rfl) (by rfl) (by rfl) (by rfl) (by rfl) (by repeat (first | exact Upd.head | apply Upd.tail)) (by rfl) ?_
  refine RS.nil ?_
  refine thenC_n ?_
  refine CS.seq ?_
  refine CS.draw 5 rfl (by kernel_rfl) (by kernel_rfl) ?_
  first | (refine RT.take (i := 0) rfl (by kernel_rfl) rfl (QO.loadB ty26 (by rfl) (by repeat (first | exact List.Mem.head _ | refine List.Mem.tail _ ?_)) (by rfl)) ?_) | (refine RT.take (i := 0) rfl (by kernel_rfl) rfl (QO.loadA ty26 (by rfl) (by repeat (first | exact List.Mem.head _ | refine List.Mem.tail _ ?_)) (by rfl) (by rfl)) ?_) | (refine RT.take (i := 0) rfl (by kernel_rfl) rfl (QO.loadOA ty26 (by rfl) (by assumption) (by rfl)) ?_)
  refine RT.take (i := 2) rfl (by kernel_rfl) rfl (QO.fieldAddr fo26_0 (by rfl)) ?_
  first | (refine RT.take (i := 3) rfl (by kernel_rfl) rfl (QO.loadB ty23 (by rfl) (by repeat (first | exact List.Mem.head _ | refine List.Mem.tail _ ?_)) (by rfl)) ?_) | (refine RT.take (i := 3) rfl (by kernel_rfl) rfl (QO.loadA ty23 (by rfl) (by repeat (first | exact List.Mem.head _ | refine List.Mem.tail _ ?_)) (by rfl) (by rfl)) ?_) | (refine RT.take (i := 3) rfl (by kernel_rfl) rfl (QO.loadOA ty23 (by rfl) (by assumption) (by rfl)) ?_)
  refine RT.one (i := 1) (by kernel_rfl) rfl rfl ?_
  refine RS.call rfl (by rfl) ok20 (by rfl) (fun w ho => fit' x2 y2 wi2 he2 A2 n2 c2 xs2 w hn2 (hA2.own ho) hlx2) ?_
  intro v20 H20 h20
  obtain ⟨gf2, X2, Y2, a2, b2, ys2, rfl, rfl, hys2, ha2, hb2, hX2, hY2, hab2⟩ := h20
  have hpos2 := Nat.mul_le_mul ha2.1 hb2.1
  refine RS.nil ⟨(by repeat (first | exact List.Sublist.refl _ | exact List.nil_sublist _ | refine List.Sublist.cons_cons _ ?_ | refine List.Sublist.cons _ ?_ | exact Sbp.refl | exact Sbp.nil | refine Sbp.cons (by repeat (first | exact Rem.head | apply Rem.tail)) ?_ | refine Sbp.skip ?_)), ?_⟩
  refine RT.one (i := 4) (by kernel_rfl) rfl rfl ?_
  refine RS.call rfl (by rfl) ok21 (by rfl) (fun w ho => like X2 Y2 a2 b2 X Y a b _ _ _ ys.length ys2 w rfl (FS.blk' ho (by repeat (first | exact List.Mem.head _ | refine List.Mem.tail _ ?_))) (by omega) (by omega) (by omega) (by omega) (by omega) (by omega)) ?_
  rintro _ _ ⟨gl, rfl, rfl⟩
  refine RS.nil ⟨(by repeat (first | exact List.Sublist.refl _ | exact List.nil_sublist _ | refine List.Sublist.cons_cons _ ?_ | refine List.Sublist.cons _ ?_ | exact Sbp.refl | exact Sbp.nil | refine Sbp.cons (by repeat (first | exact Rem.head | apply Rem.tail)) ?_ | refine Sbp.skip ?_)), ?_⟩
  refine RT.tail (i := 5) (by kernel_rfl) rfl rfl ?_
  first | refine RS.storeB ty26 (by rfl) (by rfl) (by rfl) (by rfl) (by rfl) (by repeat (first | exact Upd.head | apply Upd.tail)) (by rfl) ?_ | refine RS.storeP ty26 (by rfl) (by rfl) (by rfl) (by rfl) (by rfl) (by repeat (first | exact Upd.head | apply Upd.tail)) (by rfl) ?_
  refine RS.nil ?_
  refine RT.done (by kernel_rfl) ?_
  refine thenC_n ?_
  refine CS.seq ?_
  refine CS.region ?_
  first | (refine RS.q rfl (QO.loadB ty26 (by rfl) (by repeat (first | exact List.Mem.head _ | refine List.Mem.tail _ ?_)) (by rfl)) ?_) | (refine RS.q rfl (QO.loadA ty26 (by rfl) (by repeat (first | exact List.Mem.head _ | refine List.Mem.tail _ ?_)) (by rfl) (by rfl)) ?_) | (refine RS.q rfl (QO.loadOA ty26 (by rfl) (by assumption) (by rfl)) ?_)
  first | (refine RS.q rfl (QO.loadB ty26 (by rfl) (by repeat (first | exact List.Mem.head _ | refine List.Mem.tail _ ?_)) (by rfl)) ?_) | (refine RS.q rfl (QO.loadA ty26 (by rfl) (by repeat (first | exact List.Mem.head _ | refine List.Mem.tail _ ?_)) (by rfl) (by rfl)) ?_) | (refine RS.q rfl (QO.loadOA ty26 (by rfl) (by assumption) (by rfl)) ?_)
  refine RS.call rfl (by rfl) ok22 (by rfl) (fun w ho => changed X Y a b _ _ _ _ _ _ ys (likeV ys2 ys.length) w rfl (likeV_len _ _) (FS.blk' ho (by repeat (first | exact List.Mem.head _ | refine List.Mem.tail _ ?_))) (FS.blk' ho (by repeat (first | exact List.Mem.head _ | refine List.Mem.tail _ ?_))) hys hys ha hb hX hY hab) ?_
  intro v27 H27 h27
  obtain ⟨rx, ry, rw_, rh, rfl, rfl, hrx, hry, hrw, hrh, hbox⟩ := h27
  refine RS.q rfl (QO.move) ?_
  refine RS.q rfl (QO.extract (by rfl) (by rfl)) ?_
  refine RS.q rfl (QO.extract (by rfl) (by rfl)) ?_
  refine RS.q rfl (QO.extract (by rfl) (by rfl)) ?_
  refine RS.alloc rfl ty23 ?_
  intro g5
  first | refine RS.storeB ty23 (by rfl) (by rfl) (by rfl) (by rfl) (by rfl) (by repeat (first | exact Upd.head | apply Upd.tail)) (by rfl) ?_ | refine RS.storeP ty23 (by rfl) (by rfl) (by rfl) (by rfl) (by rfl) (by repeat (first | exact Upd.head | apply Upd.tail)) (by rfl) ?_
  refine RS.q rfl (QO.assign) ?_
  refine RS.q rfl (QO.assign) ?_
  refine RS.nil ?_
  refine thenC_n ?_
  refine CS.seq ?_
  refine CS.seq ?_
  refine CS.region ?_
  refine RS.q rfl (QO.move) ?_
  refine RS.q rfl (QO.neq (by rfl) (by rfl)) ?_
  refine RS.nil ?_
  refine thenC_n ?_
  refine CS.condF (by rfl) rfl ?_
  refine CS.skip ?_
  refine thenC_n ?_
  refine CS.seq ?_
  refine CS.region ?_
  refine RS.q rfl (QO.assign) ?_
  refine RS.nil ?_
  refine thenC_n ?_
  refine CS.seq ?_
  refine CS.seq ?_
  refine CS.region ?_
  refine RS.q rfl (QO.fieldAddr fo26_0 (by rfl)) ?_
  refine RS.q rfl (QO.fieldAddr fo23_1 (by rfl)) ?_
  first | (refine RS.q rfl (QO.load ty3 (by rfl) (by repeat (first | exact List.Mem.head _ | refine List.Mem.tail _ ?_)) (by rfl)) ?_) | (refine RS.q rfl (QO.loadO ty3 (by rfl) (by assumption)) ?_) | (refine RS.q rfl (QO.load ty3 (by rfl) (by repeat (first | exact List.Mem.head _ | refine List.Mem.tail _ ?_)) (by assumption)) ?_)
  refine RS.q rfl (QO.assign) ?_
  refine RS.nil ?_
  refine thenC_n ?_
  refine CS.block ?_
  refine CS.loop (X := Nat) (4 :: 8 :: 9 :: 10 :: 11 :: 12 :: 13 :: 14 :: 36 :: 37 :: 38 :: 39 :: 40 :: 41 :: 42 :: 43 :: 44 :: 45 :: 46 :: 47 :: 48 :: 49 :: 50 :: 51 :: 52 :: 53 :: 54 :: 55 :: 56 :: 57 :: 58 :: 59 :: 60 :: 61 :: 62 :: 63 :: 64 :: 65 :: 66 :: 67 :: 68 :: 69 :: 70 :: 71 :: 72 :: 73 :: 74 :: 75 :: 76 :: 77 :: 78 :: 79 :: 80 :: 81 :: 82 :: 83 :: 84 :: 85 :: 86 :: 87 :: 88 :: 89 :: 90 :: 91 :: 92 :: []) (fun yy => [(9, iv (Y + (yy : Int))), (8, iv (cnt ys (likeV ys2 ys.length) (a * yy) : Nat))]) (fun yy => [⟨g5, 23, [iv rx, iv ry, iv rw_, iv rh]⟩, ⟨g3, 26, [iv X, iv Y, iv (a : Int), iv (b : Int), .slice (some ⟨gl, 0, none⟩) ys.length ys.length]⟩, ⟨g2, 26, [iv X, iv Y, iv (a : Int), iv (b : Int), .slice (some ⟨gf, 0, none⟩) ys.length ys.length]⟩, ⟨gl, 33, (likeV ys2 ys.length).map flt⟩, ⟨gf, 33, ys.map flt⟩]) (fun yy => yy ≤ b) (fun yy => b - yy) 0 (by omega) ?_ ?_ ?_
  · exact kn_cons (congrArg iv (by simp)) (kn_cons (by rfl) kn_nil)
  · exact (by repeat (first | exact List.Sublist.refl _ | exact List.nil_sublist _ | refine List.Sublist.cons_cons _ ?_ | refine List.Sublist.cons _ ?_ | exact Sbp.refl | exact Sbp.nil | refine Sbp.cons (by repeat (first | exact Rem.head | apply Rem.tail)) ?_ | refine Sbp.skip ?_))
  · intro yy gj10 hz
    refine CS.seq ?_
    refine CS.seq ?_
    refine CS.region ?_
    refine RS.q rfl (QO.move) ?_
    refine RS.q rfl (QO.fieldAddr fo26_0 (by rfl)) ?_
    refine RS.q rfl (QO.fieldAddr fo23_1 (by rfl)) ?_
    first | (refine RS.q rfl (QO.load ty3 (by rfl) (by repeat (first | exact List.Mem.head _ | refine List.Mem.tail _ ?_)) (by rfl)) ?_) | (refine RS.q rfl (QO.loadO ty3 (by rfl) (by assumption)) ?_) | (refine RS.q rfl (QO.load ty3 (by rfl) (by repeat (first | exact List.Mem.head _ | refine List.Mem.tail _ ?_)) (by assumption)) ?_)
    refine RS.q rfl (QO.fieldAddr fo26_0 (by rfl)) ?_
    refine RS.q rfl (QO.fieldAddr fo23_3 (by rfl)) ?_
    first | (refine RS.q rfl (QO.load ty3 (by rfl) (by repeat (first | exact List.Mem.head _ | refine List.Mem.tail _ ?_)) (by rfl)) ?_) | (refine RS.q rfl (QO.loadO ty3 (by rfl) (by assumption)) ?_) | (refine RS.q rfl (QO.load ty3 (by rfl) (by repeat (first | exact List.Mem.head _ | refine List.Mem.tail _ ?_)) (by assumption)) ?_)
    first | (refine RS.q rfl (QO.add (by rfl) (by rfl) (by omega) (by omega)) ?_) | (refine RS.q rfl (QO.ibin (by rfl) (by rfl) trivial) ?_)
    refine RS.q rfl (QO.lss (by rfl) (by rfl)) ?_
    refine RS.nil ?_
    refine thenC_n ?_
    refine CS.cond (by rfl) (fun hb0 => ?_) (fun hb0 => ?_)
    · have hb0p := of_decide_eq_true hb0
      refine CS.skip ?_
      refine thenC_n ?_
      refine CS.seq ?_
      refine CS.block ?_
      refine CS.seq ?_
      refine CS.region ?_
      refine RS.q rfl (QO.fieldAddr fo26_0 (by rfl)) ?_
      refine RS.q rfl (QO.fieldAddr fo23_0 (by rfl)) ?_
      first | (refine RS.q rfl (QO.load ty3 (by rfl) (by repeat (first | exact List.Mem.head _ | refine List.Mem.tail _ ?_)) (by rfl)) ?_) | (refine RS.q rfl (QO.loadO ty3 (by rfl) (by assumption)) ?_) | (refine RS.q rfl (QO.load ty3 (by rfl) (by repeat (first | exact List.Mem.head _ | refine List.Mem.tail _ ?_)) (by assumption)) ?_)
      refine RS.q rfl (QO.assign) ?_
      refine RS.nil ?_
      refine thenC_n ?_
      refine CS.block ?_
      have hyb : yy < b := by omega
      refine CS.loop (X := Nat) (4 :: 8 :: 10 :: 11 :: 12 :: 13 :: 14 :: 50 :: 51 :: 52 :: 53 :: 54 :: 55 :: 56 :: 57 :: 58 :: 59 :: 60 :: 61 :: 62 :: 63 :: 64 :: 65 :: 66 :: 67 :: 68 :: 69 :: 70 :: 71 :: 72 :: 73 :: 74 :: 75 :: 76 :: 77 :: 78 :: 79 :: 80 :: 81 :: 82 :: 83 :: 84 :: 85 :: 86 :: 87 :: 88 :: 89 :: 90 :: 91 :: 92 :: []) (fun xx => [(10, iv (X + (xx : Int))), (8, iv (cnt ys (likeV ys2 ys.length) (a * yy + xx) : Nat))]) (fun xx => [⟨g5, 23, [iv rx, iv ry, iv rw_, iv rh]⟩, ⟨g3, 26, [iv X, iv Y, iv (a : Int), iv (b : Int), .slice (some ⟨gl, 0, none⟩) ys.length ys.length]⟩, ⟨g2, 26, [iv X, iv Y, iv (a : Int), iv (b : Int), .slice (some ⟨gf, 0, none⟩) ys.length ys.length]⟩, ⟨gl, 33, (likeV ys2 ys.length).map flt⟩, ⟨gf, 33, ys.map flt⟩]) (fun xx => xx ≤ a) (fun xx => a - xx) 0 (by omega) ?_ ?_ ?_
      · exact kn_cons (congrArg iv (by simp)) (kn_cons (by rfl) kn_nil)
      · exact (by repeat (first | exact List.Sublist.refl _ | exact List.nil_sublist _ | refine List.Sublist.cons_cons _ ?_ | refine List.Sublist.cons _ ?_ | exact Sbp.refl | exact Sbp.nil | refine Sbp.cons (by repeat (first | exact Rem.head | apply Rem.tail)) ?_ | refine Sbp.skip ?_))
      · intro xx gj13 hz
        refine CS.seq ?_
        refine CS.seq ?_
        refine CS.region ?_
        refine RS.q rfl (QO.move) ?_
        refine RS.q rfl (QO.fieldAddr fo26_0 (by rfl)) ?_
        refine RS.q rfl (QO.fieldAddr fo23_0 (by rfl)) ?_
        first | (refine RS.q rfl (QO.load ty3 (by rfl) (by repeat (first | exact List.Mem.head _ | refine List.Mem.tail _ ?_)) (by rfl)) ?_) | (refine RS.q rfl (QO.loadO ty3 (by rfl) (by assumption)) ?_) | (refine RS.q rfl (QO.load ty3 (by rfl) (by repeat (first | exact List.Mem.head _ | refine List.Mem.tail _ ?_)) (by assumption)) ?_)
        refine RS.q rfl (QO.fieldAddr fo26_0 (by rfl)) ?_
        refine RS.q rfl (QO.fieldAddr fo23_2 (by rfl)) ?_
        first | (refine RS.q rfl (QO.load ty3 (by rfl) (by repeat (first | exact List.Mem.head _ | refine List.Mem.tail _ ?_)) (by rfl)) ?_) | (refine RS.q rfl (QO.loadO ty3 (by rfl) (by assumption)) ?_) | (refine RS.q rfl (QO.load ty3 (by rfl) (by repeat (first | exact List.Mem.head _ | refine List.Mem.tail _ ?_)) (by assumption)) ?_)
        first | (refine RS.q rfl (QO.add (by rfl) (by rfl) (by omega) (by omega)) ?_) | (refine RS.q rfl (QO.ibin (by rfl) (by rfl) trivial) ?_)
        refine RS.q rfl (QO.lss (by rfl) (by rfl)) ?_
        refine RS.nil ?_
        refine thenC_n ?_
        refine CS.cond (by rfl) (fun hb1 => ?_) (fun hb1 => ?_)
        · have hb1p := of_decide_eq_true hb1
          refine CS.skip ?_
          refine thenC_n ?_
          refine CS.seq ?_
          refine CS.block ?_
          refine CS.cut (X := Nat × Nat) [11, 12, 61, 62, 63, 64, 65, 66, 67, 68] (fun z => [(11, .pointer (some ⟨z.1, 0, none⟩)), (12, .pointer (some ⟨z.2, 0, none⟩))]) (fun z => [⟨z.1, 35, [flt (pixF ys X Y a b (X + (xx : Int)) (Y + (yy : Int)) 0), flt (pixF ys X Y a b (X + (xx : Int)) (Y + (yy : Int)) 1), flt (pixF ys X Y a b (X + (xx : Int)) (Y + (yy : Int)) 2), flt (pixF ys X Y a b (X + (xx : Int)) (Y + (yy : Int)) 3)]⟩, ⟨z.2, 35, [flt (pixF (likeV ys2 ys.length) X Y a b (X + (xx : Int)) (Y + (yy : Int)) 0), flt (pixF (likeV ys2 ys.length) X Y a b (X + (xx : Int)) (Y + (yy : Int)) 1), flt (pixF (likeV ys2 ys.length) X Y a b (X + (xx : Int)) (Y + (yy : Int)) 2), flt (pixF (likeV ys2 ys.length) X Y a b (X + (xx : Int)) (Y + (yy : Int)) 3)]⟩, ⟨g5, 23, [iv rx, iv ry, iv rw_, iv rh]⟩, ⟨g3, 26, [iv X, iv Y, iv (a : Int), iv (b : Int), .slice (some ⟨gl, 0, none⟩) ys.length ys.length]⟩, ⟨g2, 26, [iv X, iv Y, iv (a : Int), iv (b : Int), .slice (some ⟨gf, 0, none⟩) ys.length ys.length]⟩, ⟨gl, 33, (likeV ys2 ys.length).map flt⟩, ⟨gf, 33, ys.map flt⟩]) (fun z => True) ?_ ?_
          · refine CS.draw 11 rfl (by kernel_rfl) (by kernel_rfl) ?_
            first | (refine RT.take (i := 0) rfl (by kernel_rfl) rfl (QO.loadB ty26 (by rfl) (by repeat (first | exact List.Mem.head _ | refine List.Mem.tail _ ?_)) (by rfl)) ?_) | (refine RT.take (i := 0) rfl (by kernel_rfl) rfl (QO.loadA ty26 (by rfl) (by repeat (first | exact List.Mem.head _ | refine List.Mem.tail _ ?_)) (by rfl) (by rfl)) ?_) | (refine RT.take (i := 0) rfl (by kernel_rfl) rfl (QO.loadOA ty26 (by rfl) (by assumption) (by rfl)) ?_)
            refine RT.take (i := 1) rfl (by kernel_rfl) rfl (QO.move) ?_
            refine RT.take (i := 2) rfl (by kernel_rfl) rfl (QO.move) ?_
            first | (refine RT.take (i := 4) rfl (by kernel_rfl) rfl (QO.loadB ty26 (by rfl) (by repeat (first | exact List.Mem.head _ | refine List.Mem.tail _ ?_)) (by rfl)) ?_) | (refine RT.take (i := 4) rfl (by kernel_rfl) rfl (QO.loadA ty26 (by rfl) (by repeat (first | exact List.Mem.head _ | refine List.Mem.tail _ ?_)) (by rfl) (by rfl)) ?_) | (refine RT.take (i := 4) rfl (by kernel_rfl) rfl (QO.loadOA ty26 (by rfl) (by assumption) (by rfl)) ?_)
            refine RT.take (i := 5) rfl (by kernel_rfl) rfl (QO.move) ?_
            refine RT.take (i := 6) rfl (by kernel_rfl) rfl (QO.move) ?_
            refine RT.three (i := 3) (j := 8) (l := 9) (by kernel_rfl) rfl rfl rfl ?_ ?_ ?_
            · refine RS.call rfl (by rfl) ok23 (by rfl) (fun w ho => pixelAt X Y a b _ _ _ ys (X + (xx : Int)) (Y + (yy : Int)) w rfl (FS.blk' ho (by repeat (first | exact List.Mem.head _ | refine List.Mem.tail _ ?_))) hys (Nat.le_refl _) (by omega) (by omega) (by omega) (by omega)) ?_
              rintro _ _ ⟨rfl, rfl⟩
              refine RS.nil ⟨(by repeat (first | exact List.Sublist.refl _ | exact List.nil_sublist _ | refine List.Sublist.cons_cons _ ?_ | refine List.Sublist.cons _ ?_ | exact Sbp.refl | exact Sbp.nil | refine Sbp.cons (by repeat (first | exact Rem.head | apply Rem.tail)) ?_ | refine Sbp.skip ?_)), ?_⟩
              refine RT.three (i := 7) (j := 8) (l := 9) (by kernel_rfl) rfl rfl rfl ?_ ?_ ?_
              · refine RS.call rfl (by rfl) ok23 (by rfl) (fun w ho => pixelAt X Y a b _ _ _ (likeV ys2 ys.length) (X + (xx : Int)) (Y + (yy : Int)) w (likeV_len _ _) (FS.blk' ho (by repeat (first | exact List.Mem.head _ | refine List.Mem.tail _ ?_))) hys (Nat.le_refl _) (by omega) (by omega) (by omega) (by omega)) ?_
                rintro _ _ ⟨rfl, rfl⟩
                refine RS.nil ⟨(by repeat (first | exact List.Sublist.refl _ | exact List.nil_sublist _ | refine List.Sublist.cons_cons _ ?_ | refine List.Sublist.cons _ ?_ | exact Sbp.refl | exact Sbp.nil | refine Sbp.cons (by repeat (first | exact Rem.head | apply Rem.tail)) ?_ | refine Sbp.skip ?_)), ?_⟩
                refine RT.two (i := 8) (j := 9) (by kernel_rfl) rfl rfl ?_ ?_
                · refine RS.alloc rfl ty35 ?_
                  intro g11
                  refine RS.nil ⟨(by repeat (first | exact List.Sublist.refl _ | exact List.nil_sublist _ | refine List.Sublist.cons_cons _ ?_ | refine List.Sublist.cons _ ?_ | exact Sbp.refl | exact Sbp.nil | refine Sbp.cons (by repeat (first | exact Rem.head | apply Rem.tail)) ?_ | refine Sbp.skip ?_)), ?_⟩
                  refine RT.one (i := 9) (by kernel_rfl) rfl rfl ?_
                  refine RS.alloc rfl ty35 ?_
                  intro g12
                  refine RS.nil ⟨(by repeat (first | exact List.Sublist.refl _ | exact List.nil_sublist _ | refine List.Sublist.cons_cons _ ?_ | refine List.Sublist.cons _ ?_ | exact Sbp.refl | exact Sbp.nil | refine Sbp.cons (by repeat (first | exact Rem.head | apply Rem.tail)) ?_ | refine Sbp.skip ?_)), ?_⟩
                  refine RT.one (i := 10) (by kernel_rfl) rfl rfl ?_
                  first | refine RS.storeB ty35 (by rfl) (by rfl) (by rfl) (by rfl) (by rfl) (by repeat (first | exact Upd.head | apply Upd.tail)) (by rfl) ?_ | refine RS.storeP ty35 (by rfl) (by rfl) (by rfl) (by rfl) (by rfl) (by repeat (first | exact Upd.head | apply Upd.tail)) (by rfl) ?_
                  refine RS.nil ⟨(by repeat (first | exact List.Sublist.refl _ | exact List.nil_sublist _ | refine List.Sublist.cons_cons _ ?_ | refine List.Sublist.cons _ ?_ | exact Sbp.refl | exact Sbp.nil | refine Sbp.cons (by repeat (first | exact Rem.head | apply Rem.tail)) ?_ | refine Sbp.skip ?_)), ?_⟩
                  refine RT.tail (i := 11) (by kernel_rfl) rfl rfl ?_
                  first | refine RS.storeB ty35 (by rfl) (by rfl) (by rfl) (by rfl) (by rfl) (by repeat (first | exact Upd.head | apply Upd.tail)) (by rfl) ?_ | refine RS.storeP ty35 (by rfl) (by rfl) (by rfl) (by rfl) (by rfl) (by repeat (first | exact Upd.head | apply Upd.tail)) (by rfl) ?_
                  refine RS.nil ?_
                  refine RT.done (by kernel_rfl) ?_
                  refine cutQ_n (by intro t ht; repeat (first | exact frame_puts ht (frame_mix ht) _ rfl | (refine frame_put rfl ht ?_) | (refine frame_puts ht ?_ _ rfl) | exact frame_mix ht | (refine frame_mix2 rfl ht ?_) | exact rfl)) ?_
                  exact ⟨(g11, g12), trivial, (by repeat (first | exact kn_nil | refine kn_cons (by rfl) ?_)), (by repeat (first | exact List.Sublist.refl _ | exact List.nil_sublist _ | refine List.Sublist.cons_cons _ ?_ | refine List.Sublist.cons _ ?_ | exact Sbp.refl | exact Sbp.nil | refine Sbp.cons (by repeat (first | exact Rem.head | apply Rem.tail)) ?_ | refine Sbp.skip ?_))⟩
                · refine RS.alloc rfl ty35 ?_
                  intro g12
                  refine RS.nil ⟨(by repeat (first | exact List.Sublist.refl _ | exact List.nil_sublist _ | refine List.Sublist.cons_cons _ ?_ | refine List.Sublist.cons _ ?_ | exact Sbp.refl | exact Sbp.nil | refine Sbp.cons (by repeat (first | exact Rem.head | apply Rem.tail)) ?_ | refine Sbp.skip ?_)), ?_⟩
                  refine RT.one (i := 8) (by kernel_rfl) rfl rfl ?_
                  refine RS.alloc rfl ty35 ?_
                  intro g11
                  refine RS.nil ⟨(by repeat (first | exact List.Sublist.refl _ | exact List.nil_sublist _ | refine List.Sublist.cons_cons _ ?_ | refine List.Sublist.cons _ ?_ | exact Sbp.refl | exact Sbp.nil | refine Sbp.cons (by repeat (first | exact Rem.head | apply Rem.tail)) ?_ | refine Sbp.skip ?_)), ?_⟩
                  refine RT.one (i := 10) (by kernel_rfl) rfl rfl ?_
                  first | refine RS.storeB ty35 (by rfl) (by rfl) (by rfl) (by rfl) (by rfl) (by repeat (first | exact Upd.head | apply Upd.tail)) (by rfl) ?_ | refine RS.storeP ty35 (by rfl) (by rfl) (by rfl) (by rfl) (by rfl) (by repeat (first | exact Upd.head | apply Upd.tail)) (by rfl) ?_
                  refine RS.nil ⟨(by repeat (first | exact List.Sublist.refl _ | exact List.nil_sublist _ | refine List.Sublist.cons_cons _ ?_ | refine List.Sublist.cons _ ?_ | exact Sbp.refl | exact Sbp.nil | refine Sbp.cons (by repeat (first | exact Rem.head | apply Rem.tail)) ?_ | refine Sbp.skip ?_)), ?_⟩
                  refine RT.tail (i := 11) (by kernel_rfl) rfl rfl ?_
                  first | refine RS.storeB ty35 (by rfl) (by rfl) (by rfl) (by rfl) (by rfl) (by repeat (first | exact Upd.head | apply Upd.tail)) (by rfl) ?_ | refine RS.storeP ty35 (by rfl) (by rfl) (by rfl) (by rfl) (by rfl) (by repeat (first | exact Upd.head | apply Upd.tail)) (by rfl) ?_
                  refine RS.nil ?_
                  refine RT.done (by kernel_rfl) ?_
                  refine cutQ_n (by intro t ht; repeat (first | exact frame_puts ht (frame_mix ht) _ rfl | (refine frame_put rfl ht ?_) | (refine frame_puts ht ?_ _ rfl) | exact frame_mix ht | (refine frame_mix2 rfl ht ?_) | exact rfl)) ?_
                  exact ⟨(g11, g12), trivial, (by repeat (first | exact kn_nil | refine kn_cons (by rfl) ?_)), (by repeat (first | exact List.Sublist.refl _ | exact List.nil_sublist _ | refine List.Sublist.cons_cons _ ?_ | refine List.Sublist.cons _ ?_ | exact Sbp.refl | exact Sbp.nil | refine Sbp.cons (by repeat (first | exact Rem.head | apply Rem.tail)) ?_ | refine Sbp.skip ?_))⟩
              · refine RS.alloc rfl ty35 ?_
                intro g11
                refine RS.nil ⟨(by repeat (first | exact List.Sublist.refl _ | exact List.nil_sublist _ | refine List.Sublist.cons_cons _ ?_ | refine List.Sublist.cons _ ?_ | exact Sbp.refl | exact Sbp.nil | refine Sbp.cons (by repeat (first | exact Rem.head | apply Rem.tail)) ?_ | refine Sbp.skip ?_)), ?_⟩
                refine RT.two (i := 7) (j := 9) (by kernel_rfl) rfl rfl ?_ ?_
                · refine RS.call rfl (by rfl) ok23 (by rfl) (fun w ho => pixelAt X Y a b _ _ _ (likeV ys2 ys.length) (X + (xx : Int)) (Y + (yy : Int)) w (likeV_len _ _) (FS.blk' ho (by repeat (first | exact List.Mem.head _ | refine List.Mem.tail _ ?_))) hys (Nat.le_refl _) (by omega) (by omega) (by omega) (by omega)) ?_
                  rintro _ _ ⟨rfl, rfl⟩
                  refine RS.nil ⟨(by repeat (first | exact List.Sublist.refl _ | exact List.nil_sublist _ | refine List.Sublist.cons_cons _ ?_ | refine List.Sublist.cons _ ?_ | exact Sbp.refl | exact Sbp.nil | refine Sbp.cons (by repeat (first | exact Rem.head | apply Rem.tail)) ?_ | refine Sbp.skip ?_)), ?_⟩
                  refine RT.one (i := 9) (by kernel_rfl) rfl rfl ?_
                  refine RS.alloc rfl ty35 ?_
                  intro g12
                  refine RS.nil ⟨(by repeat (first | exact List.Sublist.refl _ | exact List.nil_sublist _ | refine List.Sublist.cons_cons _ ?_ | refine List.Sublist.cons _ ?_ | exact Sbp.refl | exact Sbp.nil | refine Sbp.cons (by repeat (first | exact Rem.head | apply Rem.tail)) ?_ | refine Sbp.skip ?_)), ?_⟩
                  refine RT.one (i := 10) (by kernel_rfl) rfl rfl ?_
                  first | refine RS.storeB ty35 (by rfl) (by rfl) (by rfl) (by rfl) (by rfl) (by repeat (first | exact Upd.head | apply Upd.tail)) (by rfl) ?_ | refine RS.storeP ty35 (by rfl) (by rfl) (by rfl) (by rfl) (by rfl) (by repeat (first | exact Upd.head | apply Upd.tail)) (by rfl) ?_
                  refine RS.nil ⟨(by repeat (first | exact List.Sublist.refl _ | exact List.nil_sublist _ | refine List.Sublist.cons_cons _ ?_ | refine List.Sublist.cons _ ?_ | exact Sbp.refl | exact Sbp.nil | refine Sbp.cons (by repeat (first | exact Rem.head | apply Rem.tail)) ?_ | refine Sbp.skip ?_)), ?_⟩
                  refine RT.tail (i := 11) (by kernel_rfl) rfl rfl ?_
                  first | refine RS.storeB ty35 (by rfl) (by rfl) (by rfl) (by rfl) (by rfl) (by repeat (first | exact Upd.head | apply Upd.tail)) (by rfl) ?_ | refine RS.storeP ty35 (by rfl) (by rfl) (by rfl) (by rfl) (by rfl) (by repeat (first | exact Upd.head | apply Upd.tail)) (by rfl) ?_
                  refine RS.nil ?_
                  refine RT.done (by kernel_rfl) ?_
                  refine cutQ_n (by intro t ht; repeat (first | exact frame_puts ht (frame_mix ht) _ rfl | (refine frame_put rfl ht ?_) | (refine frame_puts ht ?_ _ rfl) | exact frame_mix ht | (refine frame_mix2 rfl ht ?_) | exact rfl)) ?_
                  exact ⟨(g11, g12), trivial, (by repeat (first | exact kn_nil | refine kn_cons (by rfl) ?_)), (by repeat (first | exact List.Sublist.refl _ | exact List.nil_sublist _ | refine List.Sublist.cons_cons _ ?_ | refine List.Sublist.cons _ ?_ | exact Sbp.refl | exact Sbp.nil | refine Sbp.cons (by repeat (first | exact Rem.head | apply Rem.tail)) ?_ | refine Sbp.skip ?_))⟩
                · refine RS.alloc rfl ty35 ?_
                  intro g12
                  refine RS.nil ⟨(by repeat (first | exact List.Sublist.refl _ | exact List.nil_sublist _ | refine List.Sublist.cons_cons _ ?_ | refine List.Sublist.cons _ ?_ | exact Sbp.refl | exact Sbp.nil | refine Sbp.cons (by repeat (first | exact Rem.head | apply Rem.tail)) ?_ | refine Sbp.skip ?_)), ?_⟩
                  refine RT.one (i := 7) (by kernel_rfl) rfl rfl ?_
                  refine RS.call rfl (by rfl) ok23 (by rfl) (fun w ho => pixelAt X Y a b _ _ _ (likeV ys2 ys.length) (X + (xx : Int)) (Y + (yy : Int)) w (likeV_len _ _) (FS.blk' ho (by repeat (first | exact List.Mem.head _ | refine List.Mem.tail _ ?_))) hys (Nat.le_refl _) (by omega) (by omega) (by omega) (by omega)) ?_
                  rintro _ _ ⟨rfl, rfl⟩
                  refine RS.nil ⟨(by repeat (first | exact List.Sublist.refl _ | exact List.nil_sublist _ | refine List.Sublist.cons_cons _ ?_ | refine List.Sublist.cons _ ?_ | exact Sbp.refl | exact Sbp.nil | refine Sbp.cons (by repeat (first | exact Rem.head | apply Rem.tail)) ?_ | refine Sbp.skip ?_)), ?_⟩
                  refine RT.one (i := 10) (by kernel_rfl) rfl rfl ?_
                  first | refine RS.storeB ty35 (by rfl) (by rfl) (by rfl) (by rfl) (by rfl) (by repeat (first | exact Upd.head | apply Upd.tail)) (by rfl) ?_ | refine RS.storeP ty35 (by rfl) (by rfl) (by rfl) (by rfl) (by rfl) (by repeat (first | exact Upd.head | apply Upd.tail)) (by rfl) ?_
                  refine RS.nil ⟨(by repeat (first | exact List.Sublist.refl _ | exact List.nil_sublist _ | refine List.Sublist.cons_cons _ ?_ | refine List.Sublist.cons _ ?_ | exact Sbp.refl | exact Sbp.nil | refine Sbp.cons (by repeat (first | exact Rem.head | apply Rem.tail)) ?_ | refine Sbp.skip ?_)), ?_⟩
                  refine RT.tail (i := 11) (by kernel_rfl) rfl rfl ?_
                  first | refine RS.storeB ty35 (by rfl) (by rfl) (by rfl) (by rfl) (by rfl) (by repeat (first | exact Upd.head | apply Upd.tail)) (by rfl) ?_ | refine RS.storeP ty35 (by rfl) (by rfl) (by rfl) (by rfl) (by rfl) (by repeat (first | exact Upd.head | apply Upd.tail)) (by rfl) ?_
                  refine RS.nil ?_
                  refine RT.done (by kernel_rfl) ?_
                  refine cutQ_n (by intro t ht; repeat (first | exact frame_puts ht (frame_mix ht) _ rfl | (refine frame_put rfl ht ?_) | (refine frame_puts ht ?_ _ rfl) | exact frame_mix ht | (refine frame_mix2 rfl ht ?_) | exact rfl)) ?_
                  exact ⟨(g11, g12), trivial, (by repeat (first | exact kn_nil | refine kn_cons (by rfl) ?_)), (by repeat (first | exact List.Sublist.refl _ | exact List.nil_sublist _ | refine List.Sublist.cons_cons _ ?_ | refine List.Sublist.cons _ ?_ | exact Sbp.refl | exact Sbp.nil | refine Sbp.cons (by repeat (first | exact Rem.head | apply Rem.tail)) ?_ | refine Sbp.skip ?_))⟩
              · refine RS.alloc rfl ty35 ?_
                intro g12
                refine RS.nil ⟨(by repeat (first | exact List.Sublist.refl _ | exact List.nil_sublist _ | refine List.Sublist.cons_cons _ ?_ | refine List.Sublist.cons _ ?_ | exact Sbp.refl | exact Sbp.nil | refine Sbp.cons (by repeat (first | exact Rem.head | apply Rem.tail)) ?_ | refine Sbp.skip ?_)), ?_⟩
                refine RT.two (i := 7) (j := 8) (by kernel_rfl) rfl rfl ?_ ?_
                · refine RS.call rfl (by rfl) ok23 (by rfl) (fun w ho => pixelAt X Y a b _ _ _ (likeV ys2 ys.length) (X + (xx : Int)) (Y + (yy : Int)) w (likeV_len _ _) (FS.blk' ho (by repeat (first | exact List.Mem.head _ | refine List.Mem.tail _ ?_))) hys (Nat.le_refl _) (by omega) (by omega) (by omega) (by omega)) ?_
                  rintro _ _ ⟨rfl, rfl⟩
                  refine RS.nil ⟨(by repeat (first | exact List.Sublist.refl _ | exact List.nil_sublist _ | refine List.Sublist.cons_cons _ ?_ | refine List.Sublist.cons _ ?_ | exact Sbp.refl | exact Sbp.nil | refine Sbp.cons (by repeat (first | exact Rem.head | apply Rem.tail)) ?_ | refine Sbp.skip ?_)), ?_⟩
                  refine RT.one (i := 8) (by kernel_rfl) rfl rfl ?_
                  refine RS.alloc rfl ty35 ?_
                  intro g11
                  refine RS.nil ⟨(by repeat (first | exact List.Sublist.refl _ | exact List.nil_sublist _ | refine List.Sublist.cons_cons _ ?_ | refine List.Sublist.cons _ ?_ | exact Sbp.refl | exact Sbp.nil | refine Sbp.cons (by repeat (first | exact Rem.head | apply Rem.tail)) ?_ | refine Sbp.skip ?_)), ?_⟩
                  refine RT.one (i := 10) (by kernel_rfl) rfl rfl ?_
                  first | refine RS.storeB ty35 (by rfl) (by rfl) (by rfl) (by rfl) (by rfl) (by repeat (first | exact Upd.head | apply Upd.tail)) (by rfl) ?_ | refine RS.storeP ty35 (by rfl) (by rfl) (by rfl) (by rfl) (by rfl) (by repeat (first | exact Upd.head | apply Upd.tail)) (by rfl) ?_
                  refine RS.nil ⟨(by repeat (first | exact List.Sublist.refl _ | exact List.nil_sublist _ | refine List.Sublist.cons_cons _ ?_ | refine List.Sublist.cons _ ?_ | exact Sbp.refl | exact Sbp.nil | refine Sbp.cons (by repeat (first | exact Rem.head | apply Rem.tail)) ?_ | refine Sbp.skip ?_)), ?_⟩
                  refine RT.tail (i := 11) (by kernel_rfl) rfl rfl ?_
                  first | refine RS.storeB ty35 (by rfl) (by rfl) (by rfl) (by rfl) (by rfl) (by repeat (first | exact Upd.head | apply Upd.tail)) (by rfl) ?_ | refine RS.storeP ty35 (by rfl) (by rfl) (by rfl) (by rfl) (by rfl) (by repeat (first | exact Upd.head | apply Upd.tail)) (by rfl) ?_
                  refine RS.nil ?_
                  refine RT.done (by kernel_rfl) ?_
                  refine cutQ_n (by intro t ht; repeat (first | exact frame_puts ht (frame_mix ht) _ rfl | (refine frame_put rfl ht ?_) | (refine frame_puts ht ?_ _ rfl) | exact frame_mix ht | (refine frame_mix2 rfl ht ?_) | exact rfl)) ?_
                  exact ⟨(g11, g12), trivial, (by repeat (first | exact kn_nil | refine kn_cons (by rfl) ?_)), (by repeat (first | exact List.Sublist.refl _ | exact List.nil_sublist _ | refine List.Sublist.cons_cons _ ?_ | refine List.Sublist.cons _ ?_ | exact Sbp.refl | exact Sbp.nil | refine Sbp.cons (by repeat (first | exact Rem.head | apply Rem.tail)) ?_ | refine Sbp.skip ?_))⟩
                · refine RS.alloc rfl ty35 ?_
                  intro g11
                  refine RS.nil ⟨(by repeat (first | exact List.Sublist.refl _ | exact List.nil_sublist _ | refine List.Sublist.cons_cons _ ?_ | refine List.Sublist.cons _ ?_ | exact Sbp.refl | exact Sbp.nil | refine Sbp.cons (by repeat (first | exact Rem.head | apply Rem.tail)) ?_ | refine Sbp.skip ?_)), ?_⟩
                  refine RT.one (i := 7) (by kernel_rfl) rfl rfl ?_
                  refine RS.call rfl (by rfl) ok23 (by rfl) (fun w ho => pixelAt X Y a b _ _ _ (likeV ys2 ys.length) (X + (xx : Int)) (Y + (yy : Int)) w (likeV_len _ _) (FS.blk' ho (by repeat (first | exact List.Mem.head _ | refine List.Mem.tail _ ?_))) hys (Nat.le_refl _) (by omega) (by omega) (by omega) (by omega)) ?_
                  rintro _ _ ⟨rfl, rfl⟩
                  refine RS.nil ⟨(by repeat (first | exact List.Sublist.refl _ | exact List.nil_sublist _ | refine List.Sublist.cons_cons _ ?_ | refine List.Sublist.cons _ ?_ | exact Sbp.refl | exact Sbp.nil | refine Sbp.cons (by repeat (first | exact Rem.head | apply Rem.tail)) ?_ | refine Sbp.skip ?_)), ?_⟩
                  refine RT.one (i := 10) (by kernel_rfl) rfl rfl ?_
                  first | refine RS.storeB ty35 (by rfl) (by rfl) (by rfl) (by rfl) (by rfl) (by repeat (first | exact Upd.head | apply Upd.tail)) (by rfl) ?_ | refine RS.storeP ty35 (by rfl) (by rfl) (by rfl) (by rfl) (by rfl) (by repeat (first | exact Upd.head | apply Upd.tail)) (by rfl) ?_
                  refine RS.nil ⟨(by repeat (first | exact List.Sublist.refl _ | exact List.nil_sublist _ | refine List.Sublist.cons_cons _ ?_ | refine List.Sublist.cons _ ?_ | exact Sbp.refl | exact Sbp.nil | refine Sbp.cons (by repeat (first | exact Rem.head | apply Rem.tail)) ?_ | refine Sbp.skip ?_)), ?_⟩
                  refine RT.tail (i := 11) (by kernel_rfl) rfl rfl ?_
                  first | refine RS.storeB ty35 (by rfl) (by rfl) (by rfl) (by rfl) (by rfl) (by repeat (first | exact Upd.head | apply Upd.tail)) (by rfl) ?_ | refine RS.storeP ty35 (by rfl) (by rfl) (by rfl) (by rfl) (by rfl) (by repeat (first | exact Upd.head | apply Upd.tail)) (by rfl) ?_
                  refine RS.nil ?_
                  refine RT.done (by kernel_rfl) ?_
                  refine cutQ_n (by intro t ht; repeat (first | exact frame_puts ht (frame_mix ht) _ rfl | (refine frame_put rfl ht ?_) | (refine frame_puts ht ?_ _ rfl) | exact frame_mix ht | (refine frame_mix2 rfl ht ?_) | exact rfl)) ?_
                  exact ⟨(g11, g12), trivial, (by repeat (first | exact kn_nil | refine kn_cons (by rfl) ?_)), (by repeat (first | exact List.Sublist.refl _ | exact List.nil_sublist _ | refine List.Sublist.cons_cons _ ?_ | refine List.Sublist.cons _ ?_ | exact Sbp.refl | exact Sbp.nil | refine Sbp.cons (by repeat (first | exact Rem.head | apply Rem.tail)) ?_ | refine Sbp.skip ?_))⟩
            · refine RS.alloc rfl ty35 ?_
              intro g11
              refine RS.nil ⟨(by repeat (first | exact List.Sublist.refl _ | exact List.nil_sublist _ | refine List.Sublist.cons_cons _ ?_ | refine List.Sublist.cons _ ?_ | exact Sbp.refl | exact Sbp.nil | refine Sbp.cons (by repeat (first | exact Rem.head | apply Rem.tail)) ?_ | refine Sbp.skip ?_)), ?_⟩
              refine RT.two (i := 3) (j := 9) (by kernel_rfl) rfl rfl ?_ ?_
              · refine RS.call rfl (by rfl) ok23 (by rfl) (fun w ho => pixelAt X Y a b _ _ _ ys (X + (xx : Int)) (Y + (yy : Int)) w rfl (FS.blk' ho (by repeat (first | exact List.Mem.head _ | refine List.Mem.tail _ ?_))) hys (Nat.le_refl _) (by omega) (by omega) (by omega) (by omega)) ?_
                rintro _ _ ⟨rfl, rfl⟩
                refine RS.nil ⟨(by repeat (first | exact List.Sublist.refl _ | exact List.nil_sublist _ | refine List.Sublist.cons_cons _ ?_ | refine List.Sublist.cons _ ?_ | exact Sbp.refl | exact Sbp.nil | refine Sbp.cons (by repeat (first | exact Rem.head | apply Rem.tail)) ?_ | refine Sbp.skip ?_)), ?_⟩
                refine RT.two (i := 7) (j := 9) (by kernel_rfl) rfl rfl ?_ ?_
                · refine RS.call rfl (by rfl) ok23 (by rfl) (fun w ho => pixelAt X Y a b _ _ _ (likeV ys2 ys.length) (X + (xx : Int)) (Y + (yy : Int)) w (likeV_len _ _) (FS.blk' ho (by repeat (first | exact List.Mem.head _ | refine List.Mem.tail _ ?_))) hys (Nat.le_refl _) (by omega) (by omega) (by omega) (by omega)) ?_
                  rintro _ _ ⟨rfl, rfl⟩
                  refine RS.nil ⟨(by repeat (first | exact List.Sublist.refl _ | exact List.nil_sublist _ | refine List.Sublist.cons_cons _ ?_ | refine List.Sublist.cons _ ?_ | exact Sbp.refl | exact Sbp.nil | refine Sbp.cons (by repeat (first | exact Rem.head | apply Rem.tail)) ?_ | refine Sbp.skip ?_)), ?_⟩
                  refine RT.one (i := 9) (by kernel_rfl) rfl rfl ?_
                  refine RS.alloc rfl ty35 ?_
                  intro g12
                  refine RS.nil ⟨(by repeat (first | exact List.Sublist.refl _ | exact List.nil_sublist _ | refine List.Sublist.cons_cons _ ?_ | refine List.Sublist.cons _ ?_ | exact Sbp.refl | exact Sbp.nil | refine Sbp.cons (by repeat (first | exact Rem.head | apply Rem.tail)) ?_ | refine Sbp.skip ?_)), ?_⟩
                  refine RT.one (i := 10) (by kernel_rfl) rfl rfl ?_
                  first | refine RS.storeB ty35 (by rfl) (by rfl) (by rfl) (by rfl) (by rfl) (by repeat (first | exact Upd.head | apply Upd.tail)) (by rfl) ?_ | refine RS.storeP ty35 (by rfl) (by rfl) (by rfl) (by rfl) (by rfl) (by repeat (first | exact Upd.head | apply Upd.tail)) (by rfl) ?_
                  refine RS.nil ⟨(by repeat (first | exact List.Sublist.refl _ | exact List.nil_sublist _ | refine List.Sublist.cons_cons _ ?_ | refine List.Sublist.cons _ ?_ | exact Sbp.refl | exact Sbp.nil | refine Sbp.cons (by repeat (first | exact Rem.head | apply Rem.tail)) ?_ | refine Sbp.skip ?_)), ?_⟩
                  refine RT.tail (i := 11) (by kernel_rfl) rfl rfl ?_
                  first | refine RS.storeB ty35 (by rfl) (by rfl) (by rfl) (by rfl) (by rfl) (by repeat (first | exact Upd.head | apply Upd.tail)) (by rfl) ?_ | refine RS.storeP ty35 (by rfl) (by rfl) (by rfl) (by rfl) (by rfl) (by repeat (first | exact Upd.head | apply Upd.tail)) (by rfl) ?_
                  refine RS.nil ?_
                  refine RT.done (by kernel_rfl) ?_
                  refine cutQ_n (by intro t ht; repeat (first | exact frame_puts ht (frame_mix ht) _ rfl | (refine frame_put rfl ht ?_) | (refine frame_puts ht ?_ _ rfl) | exact frame_mix ht | (refine frame_mix2 rfl ht ?_) | exact rfl)) ?_
                  exact ⟨(g11, g12), trivial, (by repeat (first | exact kn_nil | refine kn_cons (by rfl) ?_)), (by repeat (first | exact List.Sublist.refl _ | exact List.nil_sublist _ | refine List.Sublist.cons_cons _ ?_ | refine List.Sublist.cons _ ?_ | exact Sbp.refl | exact Sbp.nil | refine Sbp.cons (by repeat (first | exact Rem.head | apply Rem.tail)) ?_ | refine Sbp.skip ?_))⟩
                · refine RS.alloc rfl ty35 ?_
                  intro g12
                  refine RS.nil ⟨(by repeat (first | exact List.Sublist.refl _ | exact List.nil_sublist _ | refine List.Sublist.cons_cons _ ?_ | refine List.Sublist.cons _ ?_ | exact Sbp.refl | exact Sbp.nil | refine Sbp.cons (by repeat (first | exact Rem.head | apply Rem.tail)) ?_ | refine Sbp.skip ?_)), ?_⟩
                  refine RT.one (i := 7) (by kernel_rfl) rfl rfl ?_
                  refine RS.call rfl (by rfl) ok23 (by rfl) (fun w ho => pixelAt X Y a b _ _ _ (likeV ys2 ys.length) (X + (xx : Int)) (Y + (yy : Int)) w (likeV_len _ _) (FS.blk' ho (by repeat (first | exact List.Mem.head _ | refine List.Mem.tail _ ?_))) hys (Nat.le_refl _) (by omega) (by omega) (by omega) (by omega)) ?_
                  rintro _ _ ⟨rfl, rfl⟩
                  refine RS.nil ⟨(by repeat (first | exact List.Sublist.refl _ | exact List.nil_sublist _ | refine List.Sublist.cons_cons _ ?_ | refine List.Sublist.cons _ ?_ | exact Sbp.refl | exact Sbp.nil | refine Sbp.cons (by repeat (first | exact Rem.head | apply Rem.tail)) ?_ | refine Sbp.skip ?_)), ?_⟩
                  refine RT.one (i := 10) (by kernel_rfl) rfl rfl ?_
                  first | refine RS.storeB ty35 (by rfl) (by rfl) (by rfl) (by rfl) (by rfl) (by repeat (first | exact Upd.head | apply Upd.tail)) (by rfl) ?_ | refine RS.storeP ty35 (by rfl) (by rfl) (by rfl) (by rfl) (by rfl) (by repeat (first | exact Upd.head | apply Upd.tail)) (by rfl) ?_
                  refine RS.nil ⟨(by repeat (first | exact List.Sublist.refl _ | exact List.nil_sublist _ | refine List.Sublist.cons_cons _ ?_ | refine List.Sublist.cons _ ?_ | exact Sbp.refl | exact Sbp.nil | refine Sbp.cons (by repeat (first | exact Rem.head | apply Rem.tail)) ?_ | refine Sbp.skip ?_)), ?_⟩
                  refine RT.tail (i := 11) (by kernel_rfl) rfl rfl ?_
                  first | refine RS.storeB ty35 (by rfl) (by rfl) (by rfl) (by rfl) (by rfl) (by repeat (first | exact Upd.head | apply Upd.tail)) (by rfl) ?_ | refine RS.storeP ty35 (by rfl) (by rfl) (by rfl) (by rfl) (by rfl) (by repeat (first | exact Upd.head | apply Upd.tail)) (by rfl) ?_
                  refine RS.nil ?_
                  refine RT.done (by kernel_rfl) ?_
                  refine cutQ_n (by intro t ht; repeat (first | exact frame_puts ht (frame_mix ht) _ rfl | (refine frame_put rfl ht ?_) | (refine frame_puts ht ?_ _ rfl) | exact frame_mix ht | (refine frame_mix2 rfl ht ?_) | exact rfl)) ?_
                  exact ⟨(g11, g12), trivial, (by repeat (first | exact kn_nil | refine kn_cons (by rfl) ?_)), (by repeat (first | exact List.Sublist.refl _ | exact List.nil_sublist _ | refine List.Sublist.cons_cons _ ?_ | refine List.Sublist.cons _ ?_ | exact Sbp.refl | exact Sbp.nil | refine Sbp.cons (by repeat (first | exact Rem.head | apply Rem.tail)) ?_ | refine Sbp.skip ?_))⟩
              · refine RS.alloc rfl ty35 ?_
                intro g12
                refine RS.nil ⟨(by repeat (first | exact List.Sublist.refl _ | exact List.nil_sublist _ | refine List.Sublist.cons_cons _ ?_ | refine List.Sublist.cons _ ?_ | exact Sbp.refl | exact Sbp.nil | refine Sbp.cons (by repeat (first | exact Rem.head | apply Rem.tail)) ?_ | refine Sbp.skip ?_)), ?_⟩
                refine RT.one (i := 3) (by kernel_rfl) rfl rfl ?_
                refine RS.call rfl (by rfl) ok23 (by rfl) (fun w ho => pixelAt X Y a b _ _ _ ys (X + (xx : Int)) (Y + (yy : Int)) w rfl (FS.blk' ho (by repeat (first | exact List.Mem.head _ | refine List.Mem.tail _ ?_))) hys (Nat.le_refl _) (by omega) (by omega) (by omega) (by omega)) ?_
                rintro _ _ ⟨rfl, rfl⟩
                refine RS.nil ⟨(by repeat (first | exact List.Sublist.refl _ | exact List.nil_sublist _ | refine List.Sublist.cons_cons _ ?_ | refine List.Sublist.cons _ ?_ | exact Sbp.refl | exact Sbp.nil | refine Sbp.cons (by repeat (first | exact Rem.head | apply Rem.tail)) ?_ | refine Sbp.skip ?_)), ?_⟩
                refine RT.one (i := 7) (by kernel_rfl) rfl rfl ?_
                refine RS.call rfl (by rfl) ok23 (by rfl) (fun w ho => pixelAt X Y a b _ _ _ (likeV ys2 ys.length) (X + (xx : Int)) (Y + (yy : Int)) w (likeV_len _ _) (FS.blk' ho (by repeat (first | exact List.Mem.head _ | refine List.Mem.tail _ ?_))) hys (Nat.le_refl _) (by omega) (by omega) (by omega) (by omega)) ?_
                rintro _ _ ⟨rfl, rfl⟩
                refine RS.nil ⟨(by repeat (first | exact List.Sublist.refl _ | exact List.nil_sublist _ | refine List.Sublist.cons_cons _ ?_ | refine List.Sublist.cons _ ?_ | exact Sbp.refl | exact Sbp.nil | refine Sbp.cons (by repeat (first | exact Rem.head | apply Rem.tail)) ?_ | refine Sbp.skip ?_)), ?_⟩
                refine RT.one (i := 10) (by kernel_rfl) rfl rfl ?_
                first | refine RS.storeB ty35 (by rfl) (by rfl) (by rfl) (by rfl) (by rfl) (by repeat (first | exact Upd.head | apply Upd.tail)) (by rfl) ?_ | refine RS.storeP ty35 (by rfl) (by rfl) (by rfl) (by rfl) (by rfl) (by repeat (first | exact Upd.head | apply Upd.tail)) (by rfl) ?_
                refine RS.nil ⟨(by repeat (first | exact List.Sublist.refl _ | exact List.nil_sublist _ | refine List.Sublist.cons_cons _ ?_ | refine List.Sublist.cons _ ?_ | exact Sbp.refl | exact Sbp.nil | refine Sbp.cons (by repeat (first | exact Rem.head | apply Rem.tail)) ?_ | refine Sbp.skip ?_)), ?_⟩
                refine RT.tail (i := 11) (by kernel_rfl) rfl rfl ?_
                first | refine RS.storeB ty35 (by rfl) (by rfl) (by rfl) (by rfl) (by rfl) (by repeat (first | exact Upd.head | apply Upd.tail)) (by rfl) ?_ | refine RS.storeP ty35 (by rfl) (by rfl) (by rfl) (by rfl) (by rfl) (by repeat (first | exact Upd.head | apply Upd.tail)) (by rfl) ?_
                refine RS.nil ?_
                refine RT.done (by kernel_rfl) ?_
                refine cutQ_n (by intro t ht; repeat (first | exact frame_puts ht (frame_mix ht) _ rfl | (refine frame_put rfl ht ?_) | (refine frame_puts ht ?_ _ rfl) | exact frame_mix ht | (refine frame_mix2 rfl ht ?_) | exact rfl)) ?_
                exact ⟨(g11, g12), trivial, (by repeat (first | exact kn_nil | refine kn_cons (by rfl) ?_)), (by repeat (first | exact List.Sublist.refl _ | exact List.nil_sublist _ | refine List.Sublist.cons_cons _ ?_ | refine List.Sublist.cons _ ?_ | exact Sbp.refl | exact Sbp.nil | refine Sbp.cons (by repeat (first | exact Rem.head | apply Rem.tail)) ?_ | refine Sbp.skip ?_))⟩
            · refine RS.alloc rfl ty35 ?_
              intro g12
              refine RS.nil ⟨(by repeat (first | exact List.Sublist.refl _ | exact List.nil_sublist _ | refine List.Sublist.cons_cons _ ?_ | refine List.Sublist.cons _ ?_ | exact Sbp.refl | exact Sbp.nil | refine Sbp.cons (by repeat (first | exact Rem.head | apply Rem.tail)) ?_ | refine Sbp.skip ?_)), ?_⟩
              refine RT.two (i := 3) (j := 8) (by kernel_rfl) rfl rfl ?_ ?_
              · refine RS.call rfl (by rfl) ok23 (by rfl) (fun w ho => pixelAt X Y a b _ _ _ ys (X + (xx : Int)) (Y + (yy : Int)) w rfl (FS.blk' ho (by repeat (first | exact List.Mem.head _ | refine List.Mem.tail _ ?_))) hys (Nat.le_refl _) (by omega) (by omega) (by omega) (by omega)) ?_
                rintro _ _ ⟨rfl, rfl⟩
                refine RS.nil ⟨(by repeat (first | exact List.Sublist.refl _ | exact List.nil_sublist _ | refine List.Sublist.cons_cons _ ?_ | refine List.Sublist.cons _ ?_ | exact Sbp.refl | exact Sbp.nil | refine Sbp.cons (by repeat (first | exact Rem.head | apply Rem.tail)) ?_ | refine Sbp.skip ?_)), ?_⟩
                refine RT.two (i := 7) (j := 8) (by kernel_rfl) rfl rfl ?_ ?_
                · refine RS.call rfl (by rfl) ok23 (by rfl) (fun w ho => pixelAt X Y a b _ _ _ (likeV ys2 ys.length) (X + (xx : Int)) (Y + (yy : Int)) w (likeV_len _ _) (FS.blk' ho (by repeat (first | exact List.Mem.head _ | refine List.Mem.tail _ ?_))) hys (Nat.le_refl _) (by omega) (by omega) (by omega) (by omega)) ?_
                  rintro _ _ ⟨rfl, rfl⟩
                  refine RS.nil ⟨(by repeat (first | exact List.Sublist.refl _ | exact List.nil_sublist _ | refine List.Sublist.cons_cons _ ?_ | refine List.Sublist.cons _ ?_ | exact Sbp.refl | exact Sbp.nil | refine Sbp.cons (by repeat (first | exact Rem.head | apply Rem.tail)) ?_ | refine Sbp.skip ?_)), ?_⟩
                  refine RT.one (i := 8) (by kernel_rfl) rfl rfl ?_
                  refine RS.alloc rfl ty35 ?_
                  intro g11
                  refine RS.nil ⟨(by repeat (first | exact List.Sublist.refl _ | exact List.nil_sublist _ | refine List.Sublist.cons_cons _ ?_ | refine List.Sublist.cons _ ?_ | exact Sbp.refl | exact Sbp.nil | refine Sbp.cons (by repeat (first | exact Rem.head | apply Rem.tail)) ?_ | refine Sbp.skip ?_)), ?_⟩
                  refine RT.one (i := 10) (by kernel_rfl) rfl rfl ?_
                  first | refine RS.storeB ty35 (by rfl) (by rfl) (by rfl) (by rfl) (by rfl) (by repeat (first | exact Upd.head | apply Upd.tail)) (by rfl) ?_ | refine RS.storeP ty35 (by rfl) (by rfl) (by rfl) (by rfl) (by rfl) (by repeat (first | exact Upd.head | apply Upd.tail)) (by rfl) ?_
                  refine RS.nil ⟨(by repeat (first | exact List.Sublist.refl _ | exact List.nil_sublist _ | refine List.Sublist.cons_cons _ ?_ | refine List.Sublist.cons _ ?_ | exact Sbp.refl | exact Sbp.nil | refine Sbp.cons (by repeat (first | exact Rem.head | apply Rem.tail)) ?_ | refine Sbp.skip ?_)), ?_⟩
                  refine RT.tail (i := 11) (by kernel_rfl) rfl rfl ?_
                  first | refine RS.storeB ty35 (by rfl) (by rfl) (by rfl) (by rfl) (by rfl) (by repeat (first | exact Upd.head | apply Upd.tail)) (by rfl) ?_ | refine RS.storeP ty35 (by rfl) (by rfl) (by rfl) (by rfl) (by rfl) (by repeat (first | exact Upd.head | apply Upd.tail)) (by rfl) ?_
                  refine RS.nil ?_
                  refine RT.done (by kernel_rfl) ?_
                  refine cutQ_n (by intro t ht; repeat (first | exact frame_puts ht (frame_mix ht) _ rfl | (refine frame_put rfl ht ?_) | (refine frame_puts ht ?_ _ rfl) | exact frame_mix ht | (refine frame_mix2 rfl ht ?_) | exact rfl)) ?_
                  exact ⟨(g11, g12), trivial, (by repeat (first | exact kn_nil | refine kn_cons (by rfl) ?_)), (by repeat (first | exact List.Sublist.refl _ | exact List.nil_sublist _ | refine List.Sublist.cons_cons _ ?_ | refine List.Sublist.cons _ ?_ | exact Sbp.refl | exact Sbp.nil | refine Sbp.cons (by repeat (first | exact Rem.head | apply Rem.tail)) ?_ | refine Sbp.skip ?_))⟩
                · refine RS.alloc rfl ty35 ?_
                  intro g11
                  refine RS.nil ⟨(by repeat (first | exact List.Sublist.refl _ | exact List.nil_sublist _ | refine List.Sublist.cons_cons _ ?_ | refine List.Sublist.cons _ ?_ | exact Sbp.refl | exact Sbp.nil | refine Sbp.cons (by repeat (first | exact Rem.head | apply Rem.tail)) ?_ | refine Sbp.skip ?_)), ?_⟩
                  refine RT.one (i := 7) (by kernel_rfl) rfl rfl ?_
                  refine RS.call rfl (by rfl) ok23 (by rfl) (fun w ho => pixelAt X Y a b _ _ _ (likeV ys2 ys.length) (X + (xx : Int)) (Y + (yy : Int)) w (likeV_len _ _) (FS.blk' ho (by repeat (first | exact List.Mem.head _ | refine List.Mem.tail _ ?_))) hys (Nat.le_refl _) (by omega) (by omega) (by omega) (by omega)) ?_
                  rintro _ _ ⟨rfl, rfl⟩
                  refine RS.nil ⟨(by repeat (first | exact List.Sublist.refl _ | exact List.nil_sublist _ | refine List.Sublist.cons_cons _ ?_ | refine List.Sublist.cons _ ?_ | exact Sbp.refl | exact Sbp.nil | refine Sbp.cons (by repeat (first | exact Rem.head | apply Rem.tail)) ?_ | refine Sbp.skip ?_)), ?_⟩
                  refine RT.one (i := 10) (by kernel_rfl) rfl rfl ?_
                  first | refine RS.storeB ty35 (by rfl) (by rfl) (by rfl) (by rfl) (by rfl) (by repeat (first | exact Upd.head | apply Upd.tail)) (by rfl) ?_ | refine RS.storeP ty35 (by rfl) (by rfl) (by rfl) (by rfl) (by rfl) (by repeat (first | exact Upd.head | apply Upd.tail)) (by rfl) ?_
                  refine RS.nil ⟨(by repeat (first | exact List.Sublist.refl _ | exact List.nil_sublist _ | refine List.Sublist.cons_cons _ ?_ | refine List.Sublist.cons _ ?_ | exact Sbp.refl | exact Sbp.nil | refine Sbp.cons (by repeat (first | exact Rem.head | apply Rem.tail)) ?_ | refine Sbp.skip ?_)), ?_⟩
                  refine RT.tail (i := 11) (by kernel_rfl) rfl rfl ?_
                  first | refine RS.storeB ty35 (by rfl) (by rfl) (by rfl) (by rfl) (by rfl) (by repeat (first | exact Upd.head | apply Upd.tail)) (by rfl) ?_ | refine RS.storeP ty35 (by rfl) (by rfl) (by rfl) (by rfl) (by rfl) (by repeat (first | exact Upd.head | apply Upd.tail)) (by rfl) ?_
                  refine RS.nil ?_
                  refine RT.done (by kernel_rfl) ?_
                  refine cutQ_n (by intro t ht; repeat (first | exact frame_puts ht (frame_mix ht) _ rfl | (refine frame_put rfl ht ?_) | (refine frame_puts ht ?_ _ rfl) | exact frame_mix ht | (refine frame_mix2 rfl ht ?_) | exact rfl)) ?_
                  exact ⟨(g11, g12), trivial, (by repeat (first | exact kn_nil | refine kn_cons (by rfl) ?_)), (by repeat (first | exact List.Sublist.refl _ | exact List.nil_sublist _ | refine List.Sublist.cons_cons _ ?_ | refine List.Sublist.cons _ ?_ | exact Sbp.refl | exact Sbp.nil | refine Sbp.cons (by repeat (first | exact Rem.head | apply Rem.tail)) ?_ | refine Sbp.skip ?_))⟩
              · refine RS.alloc rfl ty35 ?_
                intro g11
                refine RS.nil ⟨(by repeat (first | exact List.Sublist.refl _ | exact List.nil_sublist _ | refine List.Sublist.cons_cons _ ?_ | refine List.Sublist.cons _ ?_ | exact Sbp.refl | exact Sbp.nil | refine Sbp.cons (by repeat (first | exact Rem.head | apply Rem.tail)) ?_ | refine Sbp.skip ?_)), ?_⟩
                refine RT.one (i := 3) (by kernel_rfl) rfl rfl ?_
                refine RS.call rfl (by rfl) ok23 (by rfl) (fun w ho => pixelAt X Y a b _ _ _ ys (X + (xx : Int)) (Y + (yy : Int)) w rfl (FS.blk' ho (by repeat (first | exact List.Mem.head _ | refine List.Mem.tail _ ?_))) hys (Nat.le_refl _) (by omega) (by omega) (by omega) (by omega)) ?_
                rintro _ _ ⟨rfl, rfl⟩
                refine RS.nil ⟨(by repeat (first | exact List.Sublist.refl _ | exact List.nil_sublist _ | refine List.Sublist.cons_cons _ ?_ | refine List.Sublist.cons _ ?_ | exact Sbp.refl | exact Sbp.nil | refine Sbp.cons (by repeat (first | exact Rem.head | apply Rem.tail)) ?_ | refine Sbp.skip ?_)), ?_⟩
                refine RT.one (i := 7) (by kernel_rfl) rfl rfl ?_
                refine RS.call rfl (by rfl) ok23 (by rfl) (fun w ho => pixelAt X Y a b _ _ _ (likeV ys2 ys.length) (X + (xx : Int)) (Y + (yy : Int)) w (likeV_len _ _) (FS.blk' ho (by repeat (first | exact List.Mem.head _ | refine List.Mem.tail _ ?_))) hys (Nat.le_refl _) (by omega) (by omega) (by omega) (by omega)) ?_
                rintro _ _ ⟨rfl, rfl⟩
                refine RS.nil ⟨(by repeat (first | exact List.Sublist.refl _ | exact List.nil_sublist _ | refine List.Sublist.cons_cons _ ?_ | refine List.Sublist.cons _ ?_ | exact Sbp.refl | exact Sbp.nil | refine Sbp.cons (by repeat (first | exact Rem.head | apply Rem.tail)) ?_ | refine Sbp.skip ?_)), ?_⟩
                refine RT.one (i := 10) (by kernel_rfl) rfl rfl ?_
                first | refine RS.storeB ty35 (by rfl) (by rfl) (by rfl) (by rfl) (by rfl) (by repeat (first | exact Upd.head | apply Upd.tail)) (by rfl) ?_ | refine RS.storeP ty35 (by rfl) (by rfl) (by rfl) (by rfl) (by rfl) (by repeat (first | exact Upd.head | apply Upd.tail)) (by rfl) ?_
                refine RS.nil ⟨(by repeat (first | exact List.Sublist.refl _ | exact List.nil_sublist _ | refine List.Sublist.cons_cons _ ?_ | refine List.Sublist.cons _ ?_ | exact Sbp.refl | exact Sbp.nil | refine Sbp.cons (by repeat (first | exact Rem.head | apply Rem.tail)) ?_ | refine Sbp.skip ?_)), ?_⟩
                refine RT.tail (i := 11) (by kernel_rfl) rfl rfl ?_
                first | refine RS.storeB ty35 (by rfl) (by rfl) (by rfl) (by rfl) (by rfl) (by repeat (first | exact Upd.head | apply Upd.tail)) (by rfl) ?_ | refine RS.storeP ty35 (by rfl) (by rfl) (by rfl) (by rfl) (by rfl) (by repeat (first | exact Upd.head | apply Upd.tail)) (by rfl) ?_
                refine RS.nil ?_
                refine RT.done (by kernel_rfl) ?_
                refine cutQ_n (by intro t ht; repeat (first | exact frame_puts ht (frame_mix ht) _ rfl | (refine frame_put rfl ht ?_) | (refine frame_puts ht ?_ _ rfl) | exact frame_mix ht | (refine frame_mix2 rfl ht ?_) | exact rfl)) ?_
                exact ⟨(g11, g12), trivial, (by repeat (first | exact kn_nil | refine kn_cons (by rfl) ?_)), (by repeat (first | exact List.Sublist.refl _ | exact List.nil_sublist _ | refine List.Sublist.cons_cons _ ?_ | refine List.Sublist.cons _ ?_ | exact Sbp.refl | exact Sbp.nil | refine Sbp.cons (by repeat (first | exact Rem.head | apply Rem.tail)) ?_ | refine Sbp.skip ?_))⟩
          · intro z gj hz
            obtain ⟨g11, g12⟩ := z
            refine CS.seq ?_
            refine CS.region ?_
            refine RS.q rfl (QO.assign) ?_
            refine RS.nil ?_
            refine thenC_n ?_
            refine CS.seq ?_
            refine CS.seq ?_
            refine CS.region ?_
            refine RS.q rfl (QO.move) ?_
            refine RS.nil ?_
            refine thenC_n ?_
            refine CS.block ?_
            have hxb : xx < a := by omega
            refine CS.loop (X := Nat) (13 :: 14 :: 69 :: 70 :: 71 :: 72 :: 73 :: 74 :: 75 :: 76 :: 77 :: 78 :: 79 :: 80 :: 81 :: 82 :: 83 :: []) (fun cc => [(69, iv (cc : Int)), (13, .bool (!sameK ys (likeV ys2 ys.length) (a * yy + xx) cc))]) (fun cc => [⟨g11, 35, [flt (pixF ys X Y a b (X + (xx : Int)) (Y + (yy : Int)) 0), flt (pixF ys X Y a b (X + (xx : Int)) (Y + (yy : Int)) 1), flt (pixF ys X Y a b (X + (xx : Int)) (Y + (yy : Int)) 2), flt (pixF ys X Y a b (X + (xx : Int)) (Y + (yy : Int)) 3)]⟩, ⟨g12, 35, [flt (pixF (likeV ys2 ys.length) X Y a b (X + (xx : Int)) (Y + (yy : Int)) 0), flt (pixF (likeV ys2 ys.length) X Y a b (X + (xx : Int)) (Y + (yy : Int)) 1), flt (pixF (likeV ys2 ys.length) X Y a b (X + (xx : Int)) (Y + (yy : Int)) 2), flt (pixF (likeV ys2 ys.length) X Y a b (X + (xx : Int)) (Y + (yy : Int)) 3)]⟩, ⟨g5, 23, [iv rx, iv ry, iv rw_, iv rh]⟩, ⟨g3, 26, [iv X, iv Y, iv (a : Int), iv (b : Int), .slice (some ⟨gl, 0, none⟩) ys.length ys.length]⟩, ⟨g2, 26, [iv X, iv Y, iv (a : Int), iv (b : Int), .slice (some ⟨gf, 0, none⟩) ys.length ys.length]⟩, ⟨gl, 33, (likeV ys2 ys.length).map flt⟩, ⟨gf, 33, ys.map flt⟩]) (fun cc => cc ≤ 4) (fun cc => 4 - cc) 0 (by omega) ?_ ?_ ?_
            · exact (by repeat (first | exact kn_nil | refine kn_cons (by rfl) ?_))
            · exact (by repeat (first | exact List.Sublist.refl _ | exact List.nil_sublist _ | refine List.Sublist.cons_cons _ ?_ | refine List.Sublist.cons _ ?_ | exact Sbp.refl | exact Sbp.nil | refine Sbp.cons (by repeat (first | exact Rem.head | apply Rem.tail)) ?_ | refine Sbp.skip ?_))
            · intro cc gj18 hz
              refine CS.seq ?_
              refine CS.region ?_
              refine RS.q rfl (QO.lss (by rfl) (by rfl)) ?_
              refine RS.nil ?_
              refine thenC_n ?_
              refine CS.seq ?_
              refine CS.cond (by rfl) (fun hb2 => ?_) (fun hb2 => ?_)
              · have hb2p := of_decide_eq_true hb2
                refine CS.skip ?_
                refine thenC_n ?_
                refine CS.seq ?_
                refine CS.block ?_
                refine CS.seq ?_
                refine CS.region ?_
                refine RS.q rfl (QO.move) ?_
                refine RS.q rfl (QO.assign) ?_
                refine RS.nil ?_
                refine thenC_n ?_
                refine CS.draw 12 rfl (by kernel_rfl) (by kernel_rfl) ?_
                refine RT.take (i := 0) rfl (by kernel_rfl) rfl (QO.move) ?_
                refine RT.take (i := 1) rfl (by kernel_rfl) rfl (QO.move) ?_
                refine RT.split (dj := 73) (by rfl) (fun hb3 => ?_) (fun hb3 => ?_)
                · refine RT.takeOff (i := 2) (dj := 73) rfl rfl (.inl (congrArg Value.bool hb3)) (fun _ => rfl) (by kernel_rfl) rfl ?_
                  refine RT.takeOff (i := 3) (dj := 73) rfl rfl (.inl (congrArg Value.bool hb3)) (fun _ => rfl) (by kernel_rfl) rfl ?_
                  refine RT.takeOff (i := 4) (dj := 73) rfl rfl (.inl (congrArg Value.bool hb3)) (fun _ => rfl) (by kernel_rfl) rfl ?_
                  refine RT.takeOff (i := 5) (dj := 73) rfl rfl (.inl (congrArg Value.bool hb3)) (fun _ => rfl) (by kernel_rfl) rfl ?_
                  refine RT.takeOff (i := 6) (dj := 73) rfl rfl (.inl (congrArg Value.bool hb3)) (fun _ => rfl) (by kernel_rfl) rfl ?_
                  refine RT.takeOff (i := 7) (dj := 73) rfl rfl (.inl (congrArg Value.bool hb3)) (fun _ => rfl) (by kernel_rfl) rfl ?_
                  refine RT.one (i := 8) (by kernel_rfl) rfl rfl ?_
                  refine RS.off (dj := 73) rfl (.inl (congrArg Value.bool hb3)) (fun _ => rfl) rfl ?_
                  refine RS.nil ⟨(by repeat (first | exact List.Sublist.refl _ | exact List.nil_sublist _ | refine List.Sublist.cons_cons _ ?_ | refine List.Sublist.cons _ ?_ | exact Sbp.refl | exact Sbp.nil | refine Sbp.cons (by repeat (first | exact Rem.head | apply Rem.tail)) ?_ | refine Sbp.skip ?_)), ?_⟩
                  refine RT.takeOff (i := 9) (dj := 73) rfl rfl (.inl (congrArg Value.bool hb3)) (fun _ => rfl) (by kernel_rfl) rfl ?_
                  refine RT.take (i := 10) rfl (by kernel_rfl) rfl (QO.pickT (by rfl) hb3 (by rfl)) ?_
                  refine RT.take (i := 11) rfl (by kernel_rfl) rfl (QO.assign) ?_
                  refine RT.done (by kernel_rfl) ?_
                  refine blockC_n ?_
                  refine thenC_n ?_
                  refine CS.region ?_
                  first | (refine RS.q rfl (QO.add (by rfl) (by rfl) (by omega) (by omega)) ?_) | (refine RS.q rfl (QO.ibin (by rfl) (by rfl) trivial) ?_)
                  refine RS.q rfl (QO.move) ?_
                  refine RS.nil ?_
                  refine loopQ_n (by intro t ht; repeat (first | exact frame_puts ht (frame_mix ht) _ rfl | (refine frame_put rfl ht ?_) | (refine frame_puts ht ?_ _ rfl) | exact frame_mix ht | (refine frame_mix2 rfl ht ?_) | exact rfl)) ?_
                  exact ⟨cc + 1, by omega, by omega, kn_cons (by rfl) (kn_cons (congrArg Value.bool (nsame_T (by assumption))) kn_nil), (by repeat (first | exact List.Sublist.refl _ | exact List.nil_sublist _ | refine List.Sublist.cons_cons _ ?_ | refine List.Sublist.cons _ ?_ | exact Sbp.refl | exact Sbp.nil | refine Sbp.cons (by repeat (first | exact Rem.head | apply Rem.tail)) ?_ | refine Sbp.skip ?_))⟩
                · refine RT.takeOn (i := 2) (dj := 73) rfl rfl (congrArg Value.bool hb3) (by kernel_rfl) rfl (QO.move) ?_
                  first | (refine RT.takeOn (i := 3) (dj := 73) rfl rfl (congrArg Value.bool hb3) (by kernel_rfl) rfl (QO.idxArr0 Try.underlying35 ty33 (by rfl) (by rfl) (by rfl) (by omega)) ?_) | (refine RT.takeOn (i := 3) (dj := 73) rfl rfl (congrArg Value.bool hb3) (by kernel_rfl) rfl (QO.idxArrn Try.underlying35 ty33 (by rfl) (by rfl) (by rfl) (by omega)) ?_) | (refine RT.takeOn (i := 3) (dj := 73) rfl rfl (congrArg Value.bool hb3) (by kernel_rfl) rfl (QO.idxArr Try.underlying35 ty33 (by rfl) (by rfl) (by omega) (by omega)) ?_)
                  refine RT.takeOn (i := 4) (dj := 73) rfl rfl (congrArg Value.bool hb3) (by kernel_rfl) rfl (QO.load ty33 (by rfl) (by repeat (first | exact List.Mem.head _ | refine List.Mem.tail _ ?_)) (idx4 (fun q => flt (pixF ys X Y a b (X + (xx : Int)) (Y + (yy : Int)) q)) cc (by omega))) ?_
                  refine RT.takeOn (i := 5) (dj := 73) rfl rfl (congrArg Value.bool hb3) (by kernel_rfl) rfl (QO.move) ?_
                  first | (refine RT.takeOn (i := 6) (dj := 73) rfl rfl (congrArg Value.bool hb3) (by kernel_rfl) rfl (QO.idxArr0 Try.underlying35 ty33 (by rfl) (by rfl) (by rfl) (by omega)) ?_) | (refine RT.takeOn (i := 6) (dj := 73) rfl rfl (congrArg Value.bool hb3) (by kernel_rfl) rfl (QO.idxArrn Try.underlying35 ty33 (by rfl) (by rfl) (by rfl) (by omega)) ?_) | (refine RT.takeOn (i := 6) (dj := 73) rfl rfl (congrArg Value.bool hb3) (by kernel_rfl) rfl (QO.idxArr Try.underlying35 ty33 (by rfl) (by rfl) (by omega) (by omega)) ?_)
                  refine RT.takeOn (i := 7) (dj := 73) rfl rfl (congrArg Value.bool hb3) (by kernel_rfl) rfl (QO.load ty33 (by rfl) (by repeat (first | exact List.Mem.head _ | refine List.Mem.tail _ ?_)) (idx4 (fun q => flt (pixF (likeV ys2 ys.length) X Y a b (X + (xx : Int)) (Y + (yy : Int)) q)) cc (by omega))) ?_
                  refine RT.one (i := 8) (by kernel_rfl) rfl rfl ?_
                  refine RS.on (dj := 73) rfl (congrArg Value.bool hb3) ?_
                  refine RS.call rfl (by rfl) ok24 (by rfl) (fun w ho => bit _ _ _) ?_
                  rintro _ _ ⟨rfl, rfl⟩
                  refine RS.nil ⟨(by repeat (first | exact List.Sublist.refl _ | exact List.nil_sublist _ | refine List.Sublist.cons_cons _ ?_ | refine List.Sublist.cons _ ?_ | exact Sbp.refl | exact Sbp.nil | refine Sbp.cons (by repeat (first | exact Rem.head | apply Rem.tail)) ?_ | refine Sbp.skip ?_)), ?_⟩
                  refine RT.takeOn (i := 9) (dj := 73) rfl rfl (congrArg Value.bool hb3) (by kernel_rfl) rfl (QO.not (by rfl)) ?_
                  refine RT.take (i := 10) rfl (by kernel_rfl) rfl (QO.pickF (by rfl) hb3 (by rfl)) ?_
                  refine RT.take (i := 11) rfl (by kernel_rfl) rfl (QO.assign) ?_
                  refine RT.done (by kernel_rfl) ?_
                  refine blockC_n ?_
                  refine thenC_n ?_
                  refine CS.region ?_
                  first | (refine RS.q rfl (QO.add (by rfl) (by rfl) (by omega) (by omega)) ?_) | (refine RS.q rfl (QO.ibin (by rfl) (by rfl) trivial) ?_)
                  refine RS.q rfl (QO.move) ?_
                  refine RS.nil ?_
                  refine loopQ_n (by intro t ht; repeat (first | exact frame_puts ht (frame_mix ht) _ rfl | (refine frame_put rfl ht ?_) | (refine frame_puts ht ?_ _ rfl) | exact frame_mix ht | (refine frame_mix2 rfl ht ?_) | exact rfl)) ?_
                  exact ⟨cc + 1, by omega, by omega, kn_cons (by rfl) (kn_cons (congrArg Value.bool (nsame_F (by assumption) (pixF_in hxb hyb cc) (pixF_in hxb hyb cc))) kn_nil), (by repeat (first | exact List.Sublist.refl _ | exact List.nil_sublist _ | refine List.Sublist.cons_cons _ ?_ | refine List.Sublist.cons _ ?_ | exact Sbp.refl | exact Sbp.nil | refine Sbp.cons (by repeat (first | exact Rem.head | apply Rem.tail)) ?_ | refine Sbp.skip ?_))⟩
              · have hb2p := of_decide_eq_false hb2
                refine CS.exit ?_
                refine thenC_x ?_
                refine loopQ_x ?_
                refine blockC_x ?_
                refine thenC_n ?_
                refine CS.seq ?_
                refine CS.region ?_
                obtain rfl : cc = 4 := by omega
                refine RS.q rfl (QO.move) ?_
                refine RS.nil ?_
                refine thenC_n ?_
                refine CS.cond (by rfl) (fun hb4 => ?_) (fun hb4 => ?_)
                · refine CS.seq ?_
                  refine CS.region ?_
                  have hcl := cnt_le ys (likeV ys2 ys.length) (a * yy + xx)
                  have hpb := (pix_bd hxb hyb).2.2
                  rw [Nat.mul_comm yy a] at hpb
                  refine RS.q rfl (QO.move) ?_
                  first | (refine RS.q rfl (QO.add (by rfl) (by rfl) (by omega) (by omega)) ?_) | (refine RS.q rfl (QO.ibin (by rfl) (by rfl) trivial) ?_)
                  refine RS.q rfl (QO.assign) ?_
                  refine RS.nil ?_
                  refine thenC_n ?_
                  refine CS.seq ?_
                  refine CS.region ?_
                  refine RS.q rfl (QO.move) ?_
                  refine RS.q rfl (QO.move) ?_
                  refine RS.q rfl (QO.build ty23 pl23 (by rfl)) ?_
                  first | (refine RS.q rfl (QO.loadB ty23 (by rfl) (by repeat (first | exact List.Mem.head _ | refine List.Mem.tail _ ?_)) (by rfl)) ?_) | (refine RS.q rfl (QO.loadA ty23 (by rfl) (by repeat (first | exact List.Mem.head _ | refine List.Mem.tail _ ?_)) (by rfl) (by rfl)) ?_) | (refine RS.q rfl (QO.loadOA ty23 (by rfl) (by assumption) (by rfl)) ?_)
                  have hin := hbox (a * yy + xx) (by have := pix_bd hxb hyb; rw [Nat.mul_comm]; omega) (by simpa using ‹(!sameK ys (likeV ys2 ys.length) (a * yy + xx) 4) = true›)
                  rw [Nat.mul_add_mod, Nat.mod_eq_of_lt hxb, Nat.mul_add_div (by omega), Nat.div_eq_of_lt hxb, Nat.add_zero] at hin
                  refine RS.call rfl (by rfl) ok25 (by rfl) (fun w ho => rinside _ _ _ _ _ _ _ _ _ (by omega) (by omega) (by omega) (by omega) (by omega) (by omega)) ?_
                  rintro _ _ ⟨rfl, rfl⟩
                  refine RS.q rfl (QO.not (by rfl)) ?_
                  refine RS.nil ?_
                  refine thenC_n ?_
                  refine CS.condF (by rfl) (by rw [hin]; rfl) ?_
                  refine CS.skip ?_
                  refine blockC_n ?_
                  refine thenC_n ?_
                  refine CS.region ?_
                  refine RS.q rfl (QO.move) ?_
                  first | (refine RS.q rfl (QO.add (by rfl) (by rfl) (by omega) (by omega)) ?_) | (refine RS.q rfl (QO.ibin (by rfl) (by rfl) trivial) ?_)
                  refine RS.q rfl (QO.assign) ?_
                  refine RS.nil ?_
                  refine loopQ_n (by intro t ht; repeat (first | exact frame_puts ht (frame_mix ht) _ rfl | (refine frame_put rfl ht ?_) | (refine frame_puts ht ?_ _ rfl) | exact frame_mix ht | (refine frame_mix2 rfl ht ?_) | exact rfl)) ?_
                  exact ⟨xx + 1, by omega, by omega, kn_cons (congrArg iv (by show X + (xx : Int) + 1 = X + ((xx + 1 : Nat) : Int); omega)) (kn_cons (congrArg iv (by show ((cnt ys (likeV ys2 ys.length) (a * yy + xx) : Nat) : Int) + 1 = (cnt ys (likeV ys2 ys.length) (a * yy + (xx + 1)) : Nat); rw [← Nat.add_assoc, ← cnt_diff (by simpa using ‹(!sameK ys (likeV ys2 ys.length) (a * yy + xx) 4) = true›)]; omega)) kn_nil), (by repeat (first | exact List.Sublist.refl _ | exact List.nil_sublist _ | refine List.Sublist.cons_cons _ ?_ | refine List.Sublist.cons _ ?_ | exact Sbp.refl | exact Sbp.nil | refine Sbp.cons (by repeat (first | exact Rem.head | apply Rem.tail)) ?_ | refine Sbp.skip ?_))⟩
                · refine CS.skip ?_
                  refine blockC_n ?_
                  refine thenC_n ?_
                  refine CS.region ?_
                  refine RS.q rfl (QO.move) ?_
                  first | (refine RS.q rfl (QO.add (by rfl) (by rfl) (by omega) (by omega)) ?_) | (refine RS.q rfl (QO.ibin (by rfl) (by rfl) trivial) ?_)
                  refine RS.q rfl (QO.assign) ?_
                  refine RS.nil ?_
                  refine loopQ_n (by intro t ht; repeat (first | exact frame_puts ht (frame_mix ht) _ rfl | (refine frame_put rfl ht ?_) | (refine frame_puts ht ?_ _ rfl) | exact frame_mix ht | (refine frame_mix2 rfl ht ?_) | exact rfl)) ?_
                  exact ⟨xx + 1, by omega, by omega, kn_cons (congrArg iv (by show X + (xx : Int) + 1 = X + ((xx + 1 : Nat) : Int); omega)) (kn_cons (congrArg iv (by rw [← Nat.add_assoc, ← cnt_same (by simpa using ‹(!sameK ys (likeV ys2 ys.length) (a * yy + xx) 4) = false›)])) kn_nil), (by repeat (first | exact List.Sublist.refl _ | exact List.nil_sublist _ | refine List.Sublist.cons_cons _ ?_ | refine List.Sublist.cons _ ?_ | exact Sbp.refl | exact Sbp.nil | refine Sbp.cons (by repeat (first | exact Rem.head | apply Rem.tail)) ?_ | refine Sbp.skip ?_))⟩
        · have hb1p := of_decide_eq_false hb1
          refine CS.exit ?_
          refine thenC_x ?_
          refine loopQ_x ?_
          refine blockC_x ?_
          refine blockC_n ?_
          refine thenC_n ?_
          refine CS.region ?_
          refine RS.q rfl (QO.move) ?_
          first | (refine RS.q rfl (QO.add (by rfl) (by rfl) (by omega) (by omega)) ?_) | (refine RS.q rfl (QO.ibin (by rfl) (by rfl) trivial) ?_)
          refine RS.q rfl (QO.assign) ?_
          refine RS.nil ?_
          refine loopQ_n (by intro t ht; repeat (first | exact frame_puts ht (frame_mix ht) _ rfl | (refine frame_put rfl ht ?_) | (refine frame_puts ht ?_ _ rfl) | exact frame_mix ht | (refine frame_mix2 rfl ht ?_) | exact rfl)) ?_
          obtain rfl : xx = a := by omega
          exact ⟨yy + 1, by omega, by omega, kn_cons (congrArg iv (by show Y + (yy : Int) + 1 = Y + ((yy + 1 : Nat) : Int); omega)) (kn_cons (by rfl) kn_nil), (by repeat (first | exact List.Sublist.refl _ | exact List.nil_sublist _ | refine List.Sublist.cons_cons _ ?_ | refine List.Sublist.cons _ ?_ | exact Sbp.refl | exact Sbp.nil | refine Sbp.cons (by repeat (first | exact Rem.head | apply Rem.tail)) ?_ | refine Sbp.skip ?_))⟩
    · have hb0p := of_decide_eq_false hb0
      refine CS.exit ?_
      refine thenC_x ?_
      refine loopQ_x ?_
      refine blockC_x ?_
      refine thenC_n ?_
      refine CS.seq ?_
      refine CS.region ?_
      obtain rfl : yy = b := by omega
      refine RS.q rfl (QO.move) ?_
      refine RS.q rfl (QO.move) ?_
      refine RS.qv rfl (QO.eql (by rfl) (by rfl)) (congrArg Value.bool (beq_self_eq_true _)) ?_
      refine RS.q rfl (QO.assign) ?_
      refine RS.nil ?_
      refine thenC_n ?_
      refine CS.ret ?_
      refine retQ.mk (H' := []) (.inr rfl) (RVs.tmp (by rfl) RVs.nil) (List.nil_sublist _) ?_
      exact ⟨rfl, rfl⟩

end Go.Proofs.Ytplfeaikjgfhcaa
