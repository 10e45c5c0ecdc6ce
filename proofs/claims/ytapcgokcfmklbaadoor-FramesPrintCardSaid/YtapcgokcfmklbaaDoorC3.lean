/-
  Contracts: frames made pixel by pixel, number by number; frames compared. Conditions: as each theorem says.
-/
import Derived.Test.YtapcgokcfmklbaaDoorC2
import Derived.Test.YtapcgokcfmklbaaDoorPix
namespace Go.Proofs.YtapcgokcfmklbaaDoor
open Go Go.Proofs Go.RowKit

theorem pl34 : places Tryd.prog 34 = some #[(0, 4), (4, 1)] := by kernel_rfl
theorem ok137 : callOK Tryd.prog 137 = true := by kernel_rfl
theorem ok135 : callOK Tryd.prog 135 = true := by kernel_rfl
theorem ok80 : callOK Tryd.prog 80 = true := by kernel_rfl

set_option maxRecDepth 100000 in
theorem pixelAt (x y : Int) (w h : Nat) (A : Option Addr) (n c : Nat) (xs : List Nat) (X Y : Int) (W : World) (hn : xs.length = n) (hA : FS W A xs) (hN : n = 4 * (w * h)) (hc : n ≤ c) (hw : 1 ≤ w ∧ w ≤ 256) (hh : 1 ≤ h ∧ h ≤ 256) (hx : -1048576 ≤ x ∧ x ≤ 1048576) (hy : -1048576 ≤ y ∧ y ≤ 1048576) : Fn_ Tryd.prog 137 #[.agg #[iv x, iv y, iv (w : Int), iv (h : Int), .slice A n c], iv X, iv Y] W (fun v H => v = pxv (pixF xs x y w h X Y) ∧ H = []) := by
  subst hn
  obtain ⟨i, hi, hi2⟩ := near_bd (x := x) (X := X) hw.1
  obtain ⟨j, hj, hj2⟩ := near_bd (x := y) (X := Y) hh.1
  have hbd := pix_bd hi hj
  have hwh : w * h ≤ 256 * 256 := Nat.mul_le_mul hw.2 hh.2
  have hcast : ((j * w : Nat) : Int) = (j : Int) * (w : Int) := Int.natCast_mul ..
  have hcast2 : ((w * h : Nat) : Int) = (w : Int) * (h : Int) := Int.natCast_mul ..
  obtain ⟨bA, oA, rfl, hcell⟩ := hA (by omega)
  have hpx : ∀ (k : Nat) (v : Value), [flt (pixF xs x y w h X Y 0), flt (pixF xs x y w h X Y 1), flt (pixF xs x y w h X Y 2), flt (pixF xs x y w h X Y 3)][k]? = some v → W.cell? ((⟨bA, oA + 4 * (j * w + i), none⟩ : Addr).add k) = some v := by
    intro k v hk
    have hk4 : k < 4 := (List.getElem?_eq_some_iff.1 hk).1
    rw [idx4 (fun q => flt (pixF xs x y w h X Y q)) k hk4] at hk
    have hk' : flt (pixF xs x y w h X Y k) = v := by simpa using hk
    rw [← hk', addr_add, pixF_at hi2 hj2, Nat.add_assoc]
    exact hcell _ _ (by rw [List.getElem?_eq_getElem (by omega), getD_at])
  refine Fn_.intro Tryd.func137 rfl rfl (by rfl) ?_
  refine CS.seq ?_
  refine CS.region ?_
  refine RS.box rfl (by rfl) (by rfl) ?_
  intro g3
  refine RS.alloc rfl ty38 ?_
  intro g6
  refine RS.nil ?_
  refine thenC_n ?_
  refine CS.seq ?_
  refine CS.region ?_
  refine RS.q rfl (QO.move) ?_
  refine RS.q rfl (QO.fieldAddr fo34_0 (by rfl)) ?_
  refine RS.q rfl (QO.fieldAddr fo31_0 (by rfl)) ?_
  first | (refine RS.q rfl (QO.load ty3 (by rfl) (by repeat (first | exact List.Mem.head _ | refine List.Mem.tail _ ?_)) (by rfl)) ?_) | (refine RS.q rfl (QO.loadO ty3 (by rfl) (by assumption)) ?_) | (refine RS.q rfl (QO.load ty3 (by rfl) (by repeat (first | exact List.Mem.head _ | refine List.Mem.tail _ ?_)) (by assumption)) ?_)
  refine RS.q rfl (QO.max2 (by rfl) (by rfl)) ?_
  refine RS.q rfl (QO.fieldAddr fo34_0 (by rfl)) ?_
  refine RS.q rfl (QO.fieldAddr fo31_0 (by rfl)) ?_
  first | (refine RS.q rfl (QO.load ty3 (by rfl) (by repeat (first | exact List.Mem.head _ | refine List.Mem.tail _ ?_)) (by rfl)) ?_) | (refine RS.q rfl (QO.loadO ty3 (by rfl) (by assumption)) ?_) | (refine RS.q rfl (QO.load ty3 (by rfl) (by repeat (first | exact List.Mem.head _ | refine List.Mem.tail _ ?_)) (by assumption)) ?_)
  refine RS.q rfl (QO.fieldAddr fo34_0 (by rfl)) ?_
  refine RS.q rfl (QO.fieldAddr fo31_2 (by rfl)) ?_
  first | (refine RS.q rfl (QO.load ty3 (by rfl) (by repeat (first | exact List.Mem.head _ | refine List.Mem.tail _ ?_)) (by rfl)) ?_) | (refine RS.q rfl (QO.loadO ty3 (by rfl) (by assumption)) ?_) | (refine RS.q rfl (QO.load ty3 (by rfl) (by repeat (first | exact List.Mem.head _ | refine List.Mem.tail _ ?_)) (by assumption)) ?_)
  first | (refine RS.q rfl (QO.add (by rfl) (by rfl) (by omega) (by omega)) ?_) | (refine RS.q rfl (QO.ibin (by rfl) (by rfl) trivial) ?_)
  first | (refine RS.q rfl (QO.sub (by rfl) (by rfl) (by omega) (by omega)) ?_) | (refine RS.q rfl (QO.ibin (by rfl) (by rfl) trivial) ?_)
  refine RS.qv rfl (QO.min2 (by rfl) (by rfl)) (congrArg iv (show min (max X x) (x + w - 1) = x + (i : Int) from hi2)) ?_
  refine RS.q rfl (QO.assign) ?_
  refine RS.nil ?_
  refine thenC_n ?_
  refine CS.seq ?_
  refine CS.region ?_
  refine RS.q rfl (QO.move) ?_
  refine RS.q rfl (QO.fieldAddr fo34_0 (by rfl)) ?_
  refine RS.q rfl (QO.fieldAddr fo31_1 (by rfl)) ?_
  first | (refine RS.q rfl (QO.load ty3 (by rfl) (by repeat (first | exact List.Mem.head _ | refine List.Mem.tail _ ?_)) (by rfl)) ?_) | (refine RS.q rfl (QO.loadO ty3 (by rfl) (by assumption)) ?_) | (refine RS.q rfl (QO.load ty3 (by rfl) (by repeat (first | exact List.Mem.head _ | refine List.Mem.tail _ ?_)) (by assumption)) ?_)
  refine RS.q rfl (QO.max2 (by rfl) (by rfl)) ?_
  refine RS.q rfl (QO.fieldAddr fo34_0 (by rfl)) ?_
  refine RS.q rfl (QO.fieldAddr fo31_1 (by rfl)) ?_
  first | (refine RS.q rfl (QO.load ty3 (by rfl) (by repeat (first | exact List.Mem.head _ | refine List.Mem.tail _ ?_)) (by rfl)) ?_) | (refine RS.q rfl (QO.loadO ty3 (by rfl) (by assumption)) ?_) | (refine RS.q rfl (QO.load ty3 (by rfl) (by repeat (first | exact List.Mem.head _ | refine List.Mem.tail _ ?_)) (by assumption)) ?_)
  refine RS.q rfl (QO.fieldAddr fo34_0 (by rfl)) ?_
  refine RS.q rfl (QO.fieldAddr fo31_3 (by rfl)) ?_
  first | (refine RS.q rfl (QO.load ty3 (by rfl) (by repeat (first | exact List.Mem.head _ | refine List.Mem.tail _ ?_)) (by rfl)) ?_) | (refine RS.q rfl (QO.loadO ty3 (by rfl) (by assumption)) ?_) | (refine RS.q rfl (QO.load ty3 (by rfl) (by repeat (first | exact List.Mem.head _ | refine List.Mem.tail _ ?_)) (by assumption)) ?_)
  first | (refine RS.q rfl (QO.add (by rfl) (by rfl) (by omega) (by omega)) ?_) | (refine RS.q rfl (QO.ibin (by rfl) (by rfl) trivial) ?_)
  first | (refine RS.q rfl (QO.sub (by rfl) (by rfl) (by omega) (by omega)) ?_) | (refine RS.q rfl (QO.ibin (by rfl) (by rfl) trivial) ?_)
  refine RS.qv rfl (QO.min2 (by rfl) (by rfl)) (congrArg iv (show min (max Y y) (y + h - 1) = y + (j : Int) from hj2)) ?_
  refine RS.q rfl (QO.assign) ?_
  refine RS.nil ?_
  refine thenC_n ?_
  refine CS.seq ?_
  refine CS.region ?_
  refine RS.q rfl (QO.move) ?_
  refine RS.q rfl (QO.fieldAddr fo34_0 (by rfl)) ?_
  refine RS.q rfl (QO.fieldAddr fo31_1 (by rfl)) ?_
  first | (refine RS.q rfl (QO.load ty3 (by rfl) (by repeat (first | exact List.Mem.head _ | refine List.Mem.tail _ ?_)) (by rfl)) ?_) | (refine RS.q rfl (QO.loadO ty3 (by rfl) (by assumption)) ?_) | (refine RS.q rfl (QO.load ty3 (by rfl) (by repeat (first | exact List.Mem.head _ | refine List.Mem.tail _ ?_)) (by assumption)) ?_)
  first | (refine RS.qv rfl (QO.sub (by rfl) (by rfl) (by omega) (by omega)) (congrArg iv (show y + (j : Int) - y = j by omega)) ?_) | (refine RS.qv rfl (QO.ibin (by rfl) (by rfl) trivial) (congrArg iv (show y + (j : Int) - y = j by omega)) ?_)
  refine RS.q rfl (QO.fieldAddr fo34_0 (by rfl)) ?_
  refine RS.q rfl (QO.fieldAddr fo31_2 (by rfl)) ?_
  first | (refine RS.q rfl (QO.load ty3 (by rfl) (by repeat (first | exact List.Mem.head _ | refine List.Mem.tail _ ?_)) (by rfl)) ?_) | (refine RS.q rfl (QO.loadO ty3 (by rfl) (by assumption)) ?_) | (refine RS.q rfl (QO.load ty3 (by rfl) (by repeat (first | exact List.Mem.head _ | refine List.Mem.tail _ ?_)) (by assumption)) ?_)
  first | (refine RS.q rfl (QO.mul (by rfl) (by rfl) (by omega) (by omega)) ?_) | (refine RS.q rfl (QO.ibin (by rfl) (by rfl) trivial) ?_)
  refine RS.q rfl (QO.move) ?_
  first | (refine RS.q rfl (QO.add (by rfl) (by rfl) (by omega) (by omega)) ?_) | (refine RS.q rfl (QO.ibin (by rfl) (by rfl) trivial) ?_)
  refine RS.q rfl (QO.fieldAddr fo34_0 (by rfl)) ?_
  refine RS.q rfl (QO.fieldAddr fo31_0 (by rfl)) ?_
  first | (refine RS.q rfl (QO.load ty3 (by rfl) (by repeat (first | exact List.Mem.head _ | refine List.Mem.tail _ ?_)) (by rfl)) ?_) | (refine RS.q rfl (QO.loadO ty3 (by rfl) (by assumption)) ?_) | (refine RS.q rfl (QO.load ty3 (by rfl) (by repeat (first | exact List.Mem.head _ | refine List.Mem.tail _ ?_)) (by assumption)) ?_)
  first | (refine RS.q rfl (QO.sub (by rfl) (by rfl) (by omega) (by omega)) ?_) | (refine RS.q rfl (QO.ibin (by rfl) (by rfl) trivial) ?_)
  first | (refine RS.qv rfl (QO.mul (by rfl) (by rfl) (by omega) (by omega)) (congrArg iv (show 4 * ((j : Int) * (w : Int) + (x + (i : Int)) - x) = ((4 * (j * w + i) : Nat) : Int) by omega)) ?_) | (refine RS.qv rfl (QO.ibin (by rfl) (by rfl) trivial) (congrArg iv (show 4 * ((j : Int) * (w : Int) + (x + (i : Int)) - x) = ((4 * (j * w + i) : Nat) : Int) by omega)) ?_)
  refine RS.q rfl (QO.assign) ?_
  refine RS.nil ?_
  refine thenC_n ?_
  refine CS.seq ?_
  refine CS.region ?_
  refine RS.q rfl (QO.fieldAddr fo34_1 (by rfl)) ?_
  first | (refine RS.q rfl (QO.load ty32 (by rfl) (by repeat (first | exact List.Mem.head _ | refine List.Mem.tail _ ?_)) (by rfl)) ?_) | (refine RS.q rfl (QO.loadO ty32 (by rfl) (by assumption)) ?_) | (refine RS.q rfl (QO.load ty32 (by rfl) (by repeat (first | exact List.Mem.head _ | refine List.Mem.tail _ ?_)) (by assumption)) ?_)
  refine RS.q rfl (QO.move) ?_
  refine RS.q rfl (QO.move) ?_
  first | (refine RS.q rfl (QO.add (by rfl) (by rfl) (by omega) (by omega)) ?_) | (refine RS.q rfl (QO.ibin (by rfl) (by rfl) trivial) ?_)
  refine RS.q rfl (QO.cutLoHi Tryd.underlying32 ty36 (by rfl) (by rfl) (by rfl) (by omega) (by omega) (by omega)) ?_
  refine RS.qv rfl (QO.arrPtr Tryd.underlying38 (by rfl) (by omega)) (congrArg Value.pointer (show cutAt bA oA ((4 * (j * w + i) : Nat) : Int).toNat c 1 = some ⟨bA, oA + 4 * (j * w + i), none⟩ from by rw [Int.toNat_natCast, cutAt_eq (by omega), Nat.mul_one])) ?_
  refine RS.q rfl (QO.loadOA ty38 (vs := [flt (pixF xs x y w h X Y 0), flt (pixF xs x y w h X Y 1), flt (pixF xs x y w h X Y 2), flt (pixF xs x y w h X Y 3)]) (by rfl) hpx (by rfl)) ?_
  first | refine RS.storeB ty38 (by rfl) (by rfl) (by rfl) (by rfl) (by rfl) (by repeat (first | exact Upd.head | apply Upd.tail)) (by rfl) ?_ | refine RS.storeP ty38 (by rfl) (by rfl) (by rfl) (by rfl) (by rfl) (by repeat (first | exact Upd.head | apply Upd.tail)) (by rfl) ?_
  refine RS.nil ?_
  refine thenC_n ?_
  refine CS.ret ?_
  refine retQ.mk (H' := []) (.inr rfl) (RVs.cellA ty38 (by rfl) (by repeat (first | exact List.Mem.head _ | refine List.Mem.tail _ ?_)) (by rfl) RVs.nil) (List.nil_sublist _) ?_
  exact ⟨rfl, rfl⟩

set_option maxRecDepth 100000 in
theorem made (x y : Int) (a b : Nat) (fc : FuncId) (cap : Array Value) (p : Int → Int → Nat → Nat) (W : World) (hok : callOK Tryd.prog fc = true) (hw : 1 ≤ a ∧ a ≤ 256) (hh : 1 ≤ b ∧ b ≤ 256) (hx : -1048576 ≤ x ∧ x ≤ 1048576) (hy : -1048576 ≤ y ∧ y ≤ 1048576) (hf : ∀ wd Hd, Own W wd Hd → ∀ X Y, x ≤ X → X < x + a → y ≤ Y → Y < y + b → Fn_ Tryd.prog fc (iv X :: iv Y :: cap.toList).toArray wd (fun v H => v = pxv (p X Y) ∧ H = [])) : Fn_ Tryd.prog 135 #[.agg #[iv x, iv y, iv (a : Int), iv (b : Int)], .func (.func fc) #[] cap] W (fun v H => ∃ vs, v = .agg #[iv x, iv y, iv (a : Int), iv (b : Int), vs] ∧ Row 36 1 vs (4 * (a * b)) ((madeV p x y a (4 * (a * b))).map flt) H) := by
  refine Fn_.intro Tryd.func135 rfl rfl (by rfl) ?_
  refine CS.seq ?_
  refine CS.region ?_
  refine RS.box rfl (by rfl) (by rfl) ?_
  intro g2
  refine RS.alloc rfl ty34 ?_
  intro g4
  refine RS.nil ?_
  refine thenC_n ?_
  refine CS.seq ?_
  refine CS.region ?_
  first | (refine RS.q rfl (QO.loadB ty31 (by rfl) (by repeat (first | exact List.Mem.head _ | refine List.Mem.tail _ ?_)) (by rfl)) ?_) | (refine RS.q rfl (QO.loadA ty31 (by rfl) (by repeat (first | exact List.Mem.head _ | refine List.Mem.tail _ ?_)) (by rfl) (by rfl)) ?_) | (refine RS.q rfl (QO.loadOA ty31 (by rfl) (by assumption) (by rfl)) ?_)
  refine RS.q rfl (QO.build ty34 pl34 (by rfl)) ?_
  refine RS.alloc rfl ty34 ?_
  intro g5
  first | refine RS.storeB ty34 (by rfl) (by rfl) (by rfl) (by rfl) (by rfl) (by repeat (first | exact Upd.head | apply Upd.tail)) (by rfl) ?_ | refine RS.storeP ty34 (by rfl) (by rfl) (by rfl) (by rfl) (by rfl) (by repeat (first | exact Upd.head | apply Upd.tail)) (by rfl) ?_
  refine RS.nil ?_
  refine thenC_n ?_
  refine CS.seq ?_
  refine CS.seq ?_
  refine CS.region ?_
  refine RS.q rfl (QO.fieldAddr fo31_1 (by rfl)) ?_
  first | (refine RS.q rfl (QO.load ty3 (by rfl) (by repeat (first | exact List.Mem.head _ | refine List.Mem.tail _ ?_)) (by rfl)) ?_) | (refine RS.q rfl (QO.loadO ty3 (by rfl) (by assumption)) ?_) | (refine RS.q rfl (QO.load ty3 (by rfl) (by repeat (first | exact List.Mem.head _ | refine List.Mem.tail _ ?_)) (by assumption)) ?_)
  refine RS.q rfl (QO.assign) ?_
  refine RS.nil ?_
  refine thenC_n ?_
  refine CS.block ?_
  refine CS.loop (X := Nat × Value × HL) (6 :: 7 :: 9 :: 14 :: 15 :: 16 :: 17 :: 18 :: 19 :: 20 :: 21 :: 22 :: 23 :: 24 :: 25 :: 26 :: 27 :: 28 :: 29 :: 30 :: 31 :: 32 :: 33 :: 34 :: 35 :: 36 :: 37 :: 38 :: 39 :: 40 :: 41 :: 42 :: 43 :: 44 :: 45 :: 46 :: 47 :: 48 :: []) (fun z => [(6, iv (y + (z.1 : Int)))]) (fun z => ⟨g5, 34, [iv x, iv y, iv (a : Int), iv (b : Int), z.2.1]⟩ :: ⟨g4, 34, [iv 0, iv 0, iv 0, iv 0, .slice none 0 0]⟩ :: ⟨g2, 31, [iv x, iv y, iv (a : Int), iv (b : Int)]⟩ :: z.2.2) (fun z => z.1 ≤ b ∧ Row 36 1 z.2.1 (4 * (a * z.1)) ((madeV p x y a (4 * (a * z.1))).map flt) z.2.2) (fun z => b - z.1) (0, .slice none 0 0, []) ⟨Nat.zero_le _, .nil⟩ ?_ ?_ ?_
  · exact kn_cons (congrArg iv (by simp)) kn_nil
  · exact (by repeat (first | exact List.Sublist.refl _ | exact List.nil_sublist _ | refine List.Sublist.cons_cons _ ?_ | refine List.Sublist.cons _ ?_ | exact Sbp.refl | exact Sbp.nil | refine Sbp.cons (by repeat (first | exact Rem.head | apply Rem.tail)) ?_ | exact Sbp.app | refine Sbp.skip ?_))
  · intro z gj3 hz
    obtain ⟨yy, vo, Hr⟩ := z
    obtain ⟨hyy, hrow⟩ := hz
    simp only at hyy hrow
    refine CS.seq ?_
    refine CS.seq ?_
    refine CS.region ?_
    refine RS.q rfl (QO.move) ?_
    refine RS.q rfl (QO.fieldAddr fo31_1 (by rfl)) ?_
    first | (refine RS.q rfl (QO.load ty3 (by rfl) (by repeat (first | exact List.Mem.head _ | refine List.Mem.tail _ ?_)) (by rfl)) ?_) | (refine RS.q rfl (QO.loadO ty3 (by rfl) (by assumption)) ?_) | (refine RS.q rfl (QO.load ty3 (by rfl) (by repeat (first | exact List.Mem.head _ | refine List.Mem.tail _ ?_)) (by assumption)) ?_)
    refine RS.q rfl (QO.fieldAddr fo31_3 (by rfl)) ?_
    first | (refine RS.q rfl (QO.load ty3 (by rfl) (by repeat (first | exact List.Mem.head _ | refine List.Mem.tail _ ?_)) (by rfl)) ?_) | (refine RS.q rfl (QO.loadO ty3 (by rfl) (by assumption)) ?_) | (refine RS.q rfl (QO.load ty3 (by rfl) (by repeat (first | exact List.Mem.head _ | refine List.Mem.tail _ ?_)) (by assumption)) ?_)
    first | (refine RS.q rfl (QO.add (by rfl) (by rfl) (by omega) (by omega)) ?_) | (refine RS.q rfl (QO.ibin (by rfl) (by rfl) trivial) ?_)
    refine RS.q rfl (QO.lss (by rfl) (by rfl)) ?_
    refine RS.nil ?_
    refine thenC_n ?_
    refine CS.cond (by rfl) (fun hb0 => ?_) (fun hb0 => ?_)
    · have hb0p := of_decide_eq_true hb0
      refine CS.skip ?_
      refine thenC_n ?_
      refine CS.seq ?_
      refine CS.block ?_
      refine CS.seq ?_
      refine CS.region ?_
      refine RS.q rfl (QO.fieldAddr fo31_0 (by rfl)) ?_
      first | (refine RS.q rfl (QO.load ty3 (by rfl) (by repeat (first | exact List.Mem.head _ | refine List.Mem.tail _ ?_)) (by rfl)) ?_) | (refine RS.q rfl (QO.loadO ty3 (by rfl) (by assumption)) ?_) | (refine RS.q rfl (QO.load ty3 (by rfl) (by repeat (first | exact List.Mem.head _ | refine List.Mem.tail _ ?_)) (by assumption)) ?_)
      refine RS.q rfl (QO.assign) ?_
      refine RS.nil ?_
      refine thenC_n ?_
      refine CS.block ?_
      have hyb : yy < b := by omega
      clear hyy
      refine CS.loop (X := Nat × Value × HL) (7 :: 9 :: 25 :: 26 :: 27 :: 28 :: 29 :: 30 :: 31 :: 32 :: 33 :: 34 :: 35 :: 36 :: 37 :: 38 :: 39 :: 40 :: 41 :: 42 :: 43 :: 44 :: 45 :: 46 :: 47 :: 48 :: []) (fun z => [(7, iv (x + (z.1 : Int)))]) (fun z => ⟨g5, 34, [iv x, iv y, iv (a : Int), iv (b : Int), z.2.1]⟩ :: ⟨g4, 34, [iv 0, iv 0, iv 0, iv 0, .slice none 0 0]⟩ :: ⟨g2, 31, [iv x, iv y, iv (a : Int), iv (b : Int)]⟩ :: z.2.2) (fun z => z.1 ≤ a ∧ Row 36 1 z.2.1 (4 * (a * yy + z.1)) ((madeV p x y a (4 * (a * yy + z.1))).map flt) z.2.2) (fun z => a - z.1) (0, vo, Hr) ⟨Nat.zero_le _, hrow⟩ ?_ ?_ ?_
      · exact kn_cons (congrArg iv (by simp)) kn_nil
      · exact (by repeat (first | exact List.Sublist.refl _ | exact List.nil_sublist _ | refine List.Sublist.cons_cons _ ?_ | refine List.Sublist.cons _ ?_ | exact Sbp.refl | exact Sbp.nil | refine Sbp.cons (by repeat (first | exact Rem.head | apply Rem.tail)) ?_ | exact Sbp.app | refine Sbp.skip ?_))
      · intro z gj6 hz
        clear hrow
        obtain ⟨xx, vo, Hr⟩ := z
        obtain ⟨hxx, hrow⟩ := hz
        simp only at hxx hrow
        refine CS.seq ?_
        refine CS.seq ?_
        refine CS.region ?_
        refine RS.q rfl (QO.move) ?_
        refine RS.q rfl (QO.fieldAddr fo31_0 (by rfl)) ?_
        first | (refine RS.q rfl (QO.load ty3 (by rfl) (by repeat (first | exact List.Mem.head _ | refine List.Mem.tail _ ?_)) (by rfl)) ?_) | (refine RS.q rfl (QO.loadO ty3 (by rfl) (by assumption)) ?_) | (refine RS.q rfl (QO.load ty3 (by rfl) (by repeat (first | exact List.Mem.head _ | refine List.Mem.tail _ ?_)) (by assumption)) ?_)
        refine RS.q rfl (QO.fieldAddr fo31_2 (by rfl)) ?_
        first | (refine RS.q rfl (QO.load ty3 (by rfl) (by repeat (first | exact List.Mem.head _ | refine List.Mem.tail _ ?_)) (by rfl)) ?_) | (refine RS.q rfl (QO.loadO ty3 (by rfl) (by assumption)) ?_) | (refine RS.q rfl (QO.load ty3 (by rfl) (by repeat (first | exact List.Mem.head _ | refine List.Mem.tail _ ?_)) (by assumption)) ?_)
        first | (refine RS.q rfl (QO.add (by rfl) (by rfl) (by omega) (by omega)) ?_) | (refine RS.q rfl (QO.ibin (by rfl) (by rfl) trivial) ?_)
        refine RS.q rfl (QO.lss (by rfl) (by rfl)) ?_
        refine RS.nil ?_
        refine thenC_n ?_
        refine CS.cond (by rfl) (fun hb1 => ?_) (fun hb1 => ?_)
        · have hb1p := of_decide_eq_true hb1
          refine CS.skip ?_
          refine thenC_n ?_
          refine CS.seq ?_
          refine CS.block ?_
          refine CS.seq ?_
          refine CS.region ?_
          refine RS.q rfl (QO.move) ?_
          refine RS.q rfl (QO.move) ?_
          refine RS.q rfl (QO.move) ?_
          refine RS.call rfl (by rfl) hok (by rfl) (fun w ho => hf _ _ ho (x + (xx : Int)) (y + (yy : Int)) (by omega) (by omega) (by omega) (by omega)) ?_
          rintro _ _ ⟨rfl, rfl⟩
          refine RS.q rfl (QO.move) ?_
          refine RS.nil ?_
          refine thenC_n ?_
          refine CS.block ?_
          have hxb : xx < a := by omega
          clear hxx
          have hbd := pix_bd hxb hyb
          rw [Nat.mul_comm yy a] at hbd
          have hwh : a * b ≤ 256 * 256 := Nat.mul_le_mul hw.2 hh.2
          refine CS.loop (X := Nat × Value × HL) (9 :: 38 :: 39 :: 40 :: 41 :: 42 :: 43 :: 44 :: 45 :: 46 :: 47 :: 48 :: []) (fun z => [(38, iv (z.1 : Int))]) (fun z => ⟨g5, 34, [iv x, iv y, iv (a : Int), iv (b : Int), z.2.1]⟩ :: ⟨g4, 34, [iv 0, iv 0, iv 0, iv 0, .slice none 0 0]⟩ :: ⟨g2, 31, [iv x, iv y, iv (a : Int), iv (b : Int)]⟩ :: z.2.2) (fun z => z.1 ≤ 4 ∧ Row 36 1 z.2.1 (4 * (a * yy + xx) + z.1) ((madeV p x y a (4 * (a * yy + xx) + z.1)).map flt) z.2.2) (fun z => 4 - z.1) (0, vo, Hr) ⟨by omega, hrow⟩ ?_ ?_ ?_
          · exact (by repeat (first | exact kn_nil | refine kn_cons (by rfl) ?_))
          · exact (by repeat (first | exact List.Sublist.refl _ | exact List.nil_sublist _ | refine List.Sublist.cons_cons _ ?_ | refine List.Sublist.cons _ ?_ | exact Sbp.refl | exact Sbp.nil | refine Sbp.cons (by repeat (first | exact Rem.head | apply Rem.tail)) ?_ | exact Sbp.app | refine Sbp.skip ?_))
          · intro z gj9 hz
            clear hrow
            obtain ⟨cc, vo, Hr⟩ := z
            obtain ⟨hcc, hrow⟩ := hz
            simp only at hcc hrow
            refine CS.seq ?_
            refine CS.region ?_
            refine RS.q rfl (QO.lss (by rfl) (by rfl)) ?_
            refine RS.nil ?_
            refine thenC_n ?_
            refine CS.seq ?_
            refine CS.cond (by rfl) (fun hb2 => ?_) (fun hb2 => ?_)
            · have hb2p := of_decide_eq_true hb2
              refine CS.skip ?_
              refine thenC_n ?_
              refine CS.seq ?_
              refine CS.block ?_
              refine CS.seq ?_
              refine CS.region ?_
              refine RS.q rfl (QO.index1 Tryd.underlying37 ty36 (by rfl) (by rfl) (by omega) (by omega) (idx4i (fun q => flt (p (x + (xx : Int)) (y + (yy : Int)) q)) cc (by omega))) ?_
              refine RS.q rfl (QO.assign) ?_
              refine RS.nil ?_
              refine thenC_n ?_
              refine CS.drawS (HS := [⟨g5, 34, [iv x, iv y, iv (a : Int), iv (b : Int), vo]⟩, ⟨g4, 34, [iv 0, iv 0, iv 0, iv 0, .slice none 0 0]⟩, ⟨g2, 31, [iv x, iv y, iv (a : Int), iv (b : Int)]⟩]) 7 (by repeat (first | exact List.Sublist.refl _ | exact List.nil_sublist _ | refine List.Sublist.cons_cons _ ?_ | refine List.Sublist.cons _ ?_ | exact Sbp.refl | exact Sbp.nil | refine Sbp.cons (by repeat (first | exact Rem.head | apply Rem.tail)) ?_ | exact Sbp.app | refine Sbp.skip ?_)) rfl (by kernel_rfl) (by kernel_rfl) ?_
              refine RT.take (i := 0) rfl (by kernel_rfl) rfl (QO.fieldAddr fo34_1 (by rfl)) ?_
              first | (refine RT.take (i := 1) rfl (by kernel_rfl) rfl (QO.load ty32 (by rfl) (by repeat (first | exact List.Mem.head _ | refine List.Mem.tail _ ?_)) (by rfl)) ?_) | (refine RT.take (i := 1) rfl (by kernel_rfl) rfl (QO.loadO ty32 (by rfl) (by assumption)) ?_) | (refine RT.take (i := 1) rfl (by kernel_rfl) rfl (QO.load ty32 (by rfl) (by repeat (first | exact List.Mem.head _ | refine List.Mem.tail _ ?_)) (by assumption)) ?_)
              refine RT.take (i := 2) rfl (by kernel_rfl) rfl (QO.move) ?_
              refine RT.one (i := 3) (by kernel_rfl) rfl rfl ?_
              refine RS.call rfl (by rfl) ok161 (by rfl) (fun w ho => fix _ _) ?_
              rintro _ _ ⟨rfl, rfl⟩
              refine RS.nil ⟨(by repeat (first | exact List.Sublist.refl _ | exact List.nil_sublist _ | refine List.Sublist.cons_cons _ ?_ | refine List.Sublist.cons _ ?_ | exact Sbp.refl | exact Sbp.nil | refine Sbp.cons (by repeat (first | exact Rem.head | apply Rem.tail)) ?_ | exact Sbp.app | refine Sbp.skip ?_)), ?_⟩
              refine RT.one (i := 4) (by kernel_rfl) rfl rfl ?_
              refine RS.buildSlice rfl Tryd.underlying32 ty36 (by decide) (by decide) (by rfl) (by rfl) ?_
              intro g45
              refine RS.nil ⟨(by repeat (first | exact List.Sublist.refl _ | exact List.nil_sublist _ | refine List.Sublist.cons_cons _ ?_ | refine List.Sublist.cons _ ?_ | exact Sbp.refl | exact Sbp.nil | refine Sbp.cons (by repeat (first | exact Rem.head | apply Rem.tail)) ?_ | exact Sbp.app | refine Sbp.skip ?_)), ?_⟩
              refine RT.one (i := 5) (by kernel_rfl) rfl rfl ?_
              refine RS.appendRow rfl Tryd.underlying32 ty36 (by rfl) hrow (by repeat (first | exact Suf.base | apply Suf.cons)) (by rfl) (Src.blk (by repeat (first | exact List.Mem.head _ | refine List.Mem.tail _ ?_))) (by rfl) (by rfl) (by decide) (by decide) (by unfold maxLen; omega) (by omega) ?_
              intro v46 H46 hrow46
              refine RS.nil ⟨(by repeat (first | exact List.Sublist.refl _ | exact List.nil_sublist _ | refine List.Sublist.cons_cons _ ?_ | refine List.Sublist.cons _ ?_ | exact Sbp.refl | exact Sbp.nil | refine Sbp.cons (by repeat (first | exact Rem.head | apply Rem.tail)) ?_ | exact Sbp.app | refine Sbp.skip ?_)), ?_⟩
              refine RT.take (i := 6) rfl (by kernel_rfl) rfl (QO.fieldAddr fo34_1 (by rfl)) ?_
              obtain ⟨A46, c46, rfl, hA46, hc46⟩ := hrow46.slice
              refine RT.tail (i := 7) (by kernel_rfl) rfl rfl ?_
              refine RS.store1 ty32 rfl (by rfl) (by rfl) (by rfl) (by repeat (first | exact Upd.head | apply Upd.tail)) (by first | (simp; done) | (simp; omega) | omega) ?_
              refine RS.nil ?_
              refine RT.done (by kernel_rfl) ?_
              refine blockC_n ?_
              refine thenC_n ?_
              refine CS.region ?_
              first | (refine RS.q rfl (QO.add (by rfl) (by rfl) (by omega) (by omega)) ?_) | (refine RS.q rfl (QO.ibin (by rfl) (by rfl) trivial) ?_)
              refine RS.q rfl (QO.move) ?_
              refine RS.nil ?_
              refine loopQ_n (by intro t ht; repeat (first | with_reducible exact rfl | exact frame_puts ht (frame_mix ht) _ rfl | (refine frame_put rfl ht ?_) | (refine frame_puts ht ?_ _ rfl) | exact frame_mix ht | (refine frame_mix2 rfl ht ?_) | exact rfl)) ?_
              have hrw : Row 36 1 (.slice A46 (4 * (a * yy + xx) + cc + 1) c46) (4 * (a * yy + xx) + cc + 1) ((madeV p x y a (4 * (a * yy + xx) + cc)).map flt ++ [flt (cl (p (x + (xx : Int)) (y + (yy : Int)) cc))]) H46 := hrow46
              exact ⟨(cc + 1, .slice A46 (4 * (a * yy + xx) + cc + 1) c46, H46), ⟨by show cc + 1 ≤ 4; omega, by show Row 36 1 (.slice A46 (4 * (a * yy + xx) + cc + 1) c46) (4 * (a * yy + xx) + (cc + 1)) ((madeV p x y a (4 * (a * yy + xx) + (cc + 1))).map flt) H46; rw [← Nat.add_assoc, madeV_succ, madeF_at hxb (by omega)]; simpa using hrw⟩, by show 4 - (cc + 1) < 4 - cc; omega, (by repeat (first | exact kn_nil | refine kn_cons (by rfl) ?_)), (by repeat (first | exact List.Sublist.refl _ | exact List.nil_sublist _ | refine List.Sublist.cons_cons _ ?_ | refine List.Sublist.cons _ ?_ | exact Sbp.refl | exact Sbp.nil | refine Sbp.cons (by repeat (first | exact Rem.head | apply Rem.tail)) ?_ | exact Sbp.app | refine Sbp.skip ?_))⟩
            · have hb2p := of_decide_eq_false hb2
              refine CS.exit ?_
              refine thenC_x ?_
              refine loopQ_x ?_
              refine blockC_x ?_
              refine blockC_n ?_
              refine thenC_n ?_
              refine CS.region ?_
              refine RS.q rfl (QO.move) ?_
              first | (refine RS.q rfl (QO.add (by rfl) (by rfl) (by omega) (by omega)) ?_) | (refine RS.q rfl (QO.ibin (by rfl) (by rfl) trivial) ?_)
              refine RS.q rfl (QO.assign) ?_
              refine RS.nil ?_
              refine loopQ_n (by intro t ht; repeat (first | with_reducible exact rfl | exact frame_puts ht (frame_mix ht) _ rfl | (refine frame_put rfl ht ?_) | (refine frame_puts ht ?_ _ rfl) | exact frame_mix ht | (refine frame_mix2 rfl ht ?_) | exact rfl)) ?_
              obtain rfl : cc = 4 := by omega
              exact ⟨(xx + 1, vo, Hr), ⟨by show xx + 1 ≤ a; omega, by rw [show 4 * (a * yy + (xx + 1)) = 4 * (a * yy + xx) + 4 by omega]; exact hrow⟩, by show a - (xx + 1) < a - xx; omega, kn_cons (congrArg iv (by show x + (xx : Int) + 1 = x + ((xx + 1 : Nat) : Int); omega)) kn_nil, (by repeat (first | exact List.Sublist.refl _ | exact List.nil_sublist _ | refine List.Sublist.cons_cons _ ?_ | refine List.Sublist.cons _ ?_ | exact Sbp.refl | exact Sbp.nil | refine Sbp.cons (by repeat (first | exact Rem.head | apply Rem.tail)) ?_ | exact Sbp.app | refine Sbp.skip ?_))⟩
        · have hb1p := of_decide_eq_false hb1
          refine CS.exit ?_
          refine thenC_x ?_
          refine loopQ_x ?_
          refine blockC_x ?_
          refine blockC_n ?_
          refine thenC_n ?_
          refine CS.region ?_
          refine RS.q rfl (QO.move) ?_
          first | (refine RS.q rfl (QO.add (by rfl) (by rfl) (by omega) (by omega)) ?_) | (refine RS.q rfl (QO.ibin (by rfl) (by rfl) trivial) ?_)
          refine RS.q rfl (QO.assign) ?_
          refine RS.nil ?_
          refine loopQ_n (by intro t ht; repeat (first | with_reducible exact rfl | exact frame_puts ht (frame_mix ht) _ rfl | (refine frame_put rfl ht ?_) | (refine frame_puts ht ?_ _ rfl) | exact frame_mix ht | (refine frame_mix2 rfl ht ?_) | exact rfl)) ?_
          obtain rfl : xx = a := by omega
          exact ⟨(yy + 1, vo, Hr), ⟨by show yy + 1 ≤ b; omega, by rw [Nat.mul_succ]; exact hrow⟩, by show b - (yy + 1) < b - yy; omega, kn_cons (congrArg iv (by show y + (yy : Int) + 1 = y + ((yy + 1 : Nat) : Int); omega)) kn_nil, (by repeat (first | exact List.Sublist.refl _ | exact List.nil_sublist _ | refine List.Sublist.cons_cons _ ?_ | refine List.Sublist.cons _ ?_ | exact Sbp.refl | exact Sbp.nil | refine Sbp.cons (by repeat (first | exact Rem.head | apply Rem.tail)) ?_ | exact Sbp.app | refine Sbp.skip ?_))⟩
    · have hb0p := of_decide_eq_false hb0
      refine CS.exit ?_
      refine thenC_x ?_
      refine loopQ_x ?_
      refine blockC_x ?_
      refine thenC_n ?_
      refine CS.seq ?_
      refine CS.region ?_
      obtain ⟨Ao, co, rfl, hoc, hom⟩ := hrow.slice
      first | (refine RS.q rfl (QO.loadB ty34 (by rfl) (by repeat (first | exact List.Mem.head _ | refine List.Mem.tail _ ?_)) (by rfl)) ?_) | (refine RS.q rfl (QO.loadA ty34 (by rfl) (by repeat (first | exact List.Mem.head _ | refine List.Mem.tail _ ?_)) (by rfl) (by rfl)) ?_) | (refine RS.q rfl (QO.loadOA ty34 (by rfl) (by assumption) (by rfl)) ?_)
      first | refine RS.storeB ty34 (by rfl) (by rfl) (by rfl) (by rfl) (by rfl) (by repeat (first | exact Upd.head | apply Upd.tail)) (by rfl) ?_ | refine RS.storeP ty34 (by rfl) (by rfl) (by rfl) (by rfl) (by rfl) (by repeat (first | exact Upd.head | apply Upd.tail)) (by rfl) ?_
      refine RS.nil ?_
      refine thenC_n ?_
      refine CS.ret ?_
      refine retQ.mk (H' := Hr) (.inr rfl) (RVs.cellA ty34 (by rfl) (by repeat (first | exact List.Mem.head _ | refine List.Mem.tail _ ?_)) (by rfl) RVs.nil) (by repeat (first | exact List.Sublist.refl _ | exact List.nil_sublist _ | refine List.Sublist.cons_cons _ ?_ | refine List.Sublist.cons _ ?_ | exact Sbp.refl | exact Sbp.nil | refine Sbp.cons (by repeat (first | exact Rem.head | apply Rem.tail)) ?_ | exact Sbp.app | refine Sbp.skip ?_)) ?_
      obtain rfl : yy = b := by omega
      exact ⟨_, rfl, hrow⟩

/-- A frame that a call hands back: its numbers stand in a block of its own. -/
def MadeR (x y wi he : Int) (vals : List Nat) (v : Value) (H : HL) : Prop := ∃ g cap junk, v = .agg #[iv x, iv y, iv wi, iv he, .slice (some ⟨g, 0, none⟩) vals.length cap] ∧ H = [⟨g, 36, vals.map flt ++ junk⟩] ∧ vals.length ≤ cap ∧ cap ≤ maxLen
theorem made' (x y : Int) (a b : Nat) (fc : FuncId) (cap : Array Value) (p : Int → Int → Nat → Nat) (W : World) (hok : callOK Tryd.prog fc = true) (hw : 1 ≤ a ∧ a ≤ 256) (hh : 1 ≤ b ∧ b ≤ 256) (hx : -1048576 ≤ x ∧ x ≤ 1048576) (hy : -1048576 ≤ y ∧ y ≤ 1048576) (hf : ∀ wd Hd, Own W wd Hd → ∀ X Y, x ≤ X → X < x + a → y ≤ Y → Y < y + b → Fn_ Tryd.prog fc (iv X :: iv Y :: cap.toList).toArray wd (fun v H => v = pxv (p X Y) ∧ H = [])) :
    Fn_ Tryd.prog 135 #[.agg #[iv x, iv y, iv (a : Int), iv (b : Int)], .func (.func fc) #[] cap] W (MadeR x y a b (madeV p x y a (4 * (a * b)))) := by
  refine (made x y a b fc cap p W hok hw hh hx hy hf).mono fun v H h => ?_
  obtain ⟨vs, rfl, hrow⟩ := h
  have h1 : 1 * 1 ≤ a * b := Nat.mul_le_mul hw.1 hh.1
  obtain ⟨g, c, j, rfl, rfl, hc, hm, _⟩ := hrow.some (by omega)
  exact ⟨g, c, j, by rw [madeV_len], rfl, by rw [madeV_len]; exact hc, hm⟩
theorem Own.cellAt {W w : World} {H : HL} {g : Nat} {t : TypeId} {cs : List Value} (ho : Own W w H) (hm : (⟨g, t, cs⟩ : B) ∈ H) {j : Nat} {v : Value} (hj : cs[j]? = some v) : w.cell? ((⟨g, 0, none⟩ : Addr).add j) = some v := by
  rw [addr_add, (ho.blk _ hm).2.cell, Nat.zero_add]; exact hj
theorem Own.cell0 {W w : World} {H : HL} {g : Nat} {t : TypeId} {cs : List Value} (ho : Own W w H) (hm : (⟨g, t, cs⟩ : B) ∈ H) {j : Nat} {v : Value} (hj : cs[j]? = some v) : w.cell? ⟨g, j, none⟩ = some v := by
  rw [(ho.blk _ hm).2.cell]; exact hj
/-- the numbers of a frame whose pixels are turned one by one -/
def eachV (T : Nat → (Nat → Nat) → Nat) (xs : List Nat) (m : Nat) : List Nat := (List.range m).map fun i => cl (T (i % 4) fun c => xs.getD (4 * (i / 4) + c) 0)
theorem madeV_each (xs : List Nat) (x y : Int) (a b : Nat) (T : Nat → (Nat → Nat) → Nat) : madeV (fun X Y c => T c (pixF xs x y a b X Y)) x y a (4 * (a * b)) = eachV T xs (4 * (a * b)) := by
  unfold madeV eachV
  exact List.map_congr_left fun i hi => madeF_pix (List.mem_range.1 hi) T
theorem eachV_id (xs : List Nat) (m : Nat) (h : xs.length = m) : eachV (fun c q => q c) xs m = xs.map cl := by
  unfold eachV
  apply List.ext_getElem
  · simp [h]
  · intro i h1 h2
    simp at h1 h2
    simp only [List.getElem_map, List.getElem_range]
    rw [Nat.div_add_mod, getD_at]
theorem tdiv4 (n : Nat) : ((n : Int)).tdiv 4 = ((n / 4 : Nat) : Int) := by simp [Int.tdiv]
theorem tmod4 (n : Nat) : ((n : Int)).tmod 4 = ((n % 4 : Nat) : Int) := tmod_cast n 4

set_option maxRecDepth 100000 in
theorem rclean1 (q : Nat → Nat) (W : World) : Fn_ Tryd.prog 81 #[pxv q] W (fun v H => v = pxv q ∧ H = []) := by
  refine Fn_.intro Tryd.func81 rfl rfl (by rfl) ?_
  refine CS.seq ?_
  refine CS.region ?_
  refine RS.box rfl (by rfl) (by rfl) ?_
  intro g1
  refine RS.alloc rfl ty38 ?_
  intro g2
  refine RS.nil ?_
  refine thenC_n ?_
  refine CS.seq ?_
  refine CS.region ?_
  first | (refine RS.q rfl (QO.loadB ty38 (by rfl) (by repeat (first | exact List.Mem.head _ | refine List.Mem.tail _ ?_)) (by rfl)) ?_) | (refine RS.q rfl (QO.loadA ty38 (by rfl) (by repeat (first | exact List.Mem.head _ | refine List.Mem.tail _ ?_)) (by rfl) (by rfl)) ?_) | (refine RS.q rfl (QO.loadOA ty38 (by rfl) (by assumption) (by rfl)) ?_)
  first | refine RS.storeB ty38 (by rfl) (by rfl) (by rfl) (by rfl) (by rfl) (by repeat (first | exact Upd.head | apply Upd.tail)) (by rfl) ?_ | refine RS.storeP ty38 (by rfl) (by rfl) (by rfl) (by rfl) (by rfl) (by repeat (first | exact Upd.head | apply Upd.tail)) (by rfl) ?_
  refine RS.nil ?_
  refine thenC_n ?_
  refine CS.ret ?_
  refine retQ.mk (H' := []) (.inr rfl) (RVs.cellA ty38 (by rfl) (by repeat (first | exact List.Mem.head _ | refine List.Mem.tail _ ?_)) (by rfl) RVs.nil) (List.nil_sublist _) ?_
  exact ⟨rfl, rfl⟩

set_option maxRecDepth 100000 in
theorem each (x y wi he : Int) (N : Nat) (fc : FuncId) (cap : Array Value) (V : Nat → Nat) (W : World) (hN : (N : Int) = 4 * wi * he) (h0 : 0 ≤ wi) (h1 : wi ≤ 1024) (h2 : N ≤ 1000000) (hok : callOK Tryd.prog fc = true) (hf : ∀ wd Hd, Own W wd Hd → ∀ i : Nat, i < N → Fn_ Tryd.prog fc (iv (i : Int) :: cap.toList).toArray wd (fun v H => v = flt (V i) ∧ H = [])) : Fn_ Tryd.prog 71 #[.agg #[iv x, iv y, iv wi, iv he], .func (.func fc) #[] cap] W (fun v H => ∃ g, v = .agg #[iv x, iv y, iv wi, iv he, .slice (some ⟨g, 0, none⟩) N N] ∧ H = [⟨g, 36, ((List.range N).map fun i => cl (V i)).map flt⟩]) := by
  refine Fn_.intro Tryd.func71 rfl rfl (by rfl) ?_
  refine CS.seq ?_
  refine CS.region ?_
  refine RS.box rfl (by rfl) (by rfl) ?_
  intro g2
  refine RS.alloc rfl ty34 ?_
  intro g4
  refine RS.nil ?_
  refine thenC_n ?_
  refine CS.seq ?_
  refine CS.draw 10 rfl (by kernel_rfl) (by kernel_rfl) ?_
  first | (refine RT.take (i := 0) rfl (by kernel_rfl) rfl (QO.loadB ty31 (by rfl) (by repeat (first | exact List.Mem.head _ | refine List.Mem.tail _ ?_)) (by rfl)) ?_) | (refine RT.take (i := 0) rfl (by kernel_rfl) rfl (QO.loadA ty31 (by rfl) (by repeat (first | exact List.Mem.head _ | refine List.Mem.tail _ ?_)) (by rfl) (by rfl)) ?_) | (refine RT.take (i := 0) rfl (by kernel_rfl) rfl (QO.loadOA ty31 (by rfl) (by assumption) (by rfl)) ?_)
  refine RT.take (i := 1) rfl (by kernel_rfl) rfl (QO.fieldAddr fo31_2 (by rfl)) ?_
  first | (refine RT.take (i := 2) rfl (by kernel_rfl) rfl (QO.load ty3 (by rfl) (by repeat (first | exact List.Mem.head _ | refine List.Mem.tail _ ?_)) (by rfl)) ?_) | (refine RT.take (i := 2) rfl (by kernel_rfl) rfl (QO.loadO ty3 (by rfl) (by assumption)) ?_) | (refine RT.take (i := 2) rfl (by kernel_rfl) rfl (QO.load ty3 (by rfl) (by repeat (first | exact List.Mem.head _ | refine List.Mem.tail _ ?_)) (by assumption)) ?_)
  first | (refine RT.take (i := 3) rfl (by kernel_rfl) rfl (QO.mul (by rfl) (by rfl) (by omega) (by omega)) ?_) | (refine RT.take (i := 3) rfl (by kernel_rfl) rfl (QO.ibin (by rfl) (by rfl) trivial) ?_)
  refine RT.take (i := 4) rfl (by kernel_rfl) rfl (QO.fieldAddr fo31_3 (by rfl)) ?_
  first | (refine RT.take (i := 5) rfl (by kernel_rfl) rfl (QO.load ty3 (by rfl) (by repeat (first | exact List.Mem.head _ | refine List.Mem.tail _ ?_)) (by rfl)) ?_) | (refine RT.take (i := 5) rfl (by kernel_rfl) rfl (QO.loadO ty3 (by rfl) (by assumption)) ?_) | (refine RT.take (i := 5) rfl (by kernel_rfl) rfl (QO.load ty3 (by rfl) (by repeat (first | exact List.Mem.head _ | refine List.Mem.tail _ ?_)) (by assumption)) ?_)
  first | (refine RT.takev (i := 6) rfl (by kernel_rfl) rfl (QO.mul (by rfl) (by rfl) (by omega) (by omega)) (congrArg iv hN.symm) ?_) | (refine RT.takev (i := 6) rfl (by kernel_rfl) rfl (QO.ibin (by rfl) (by rfl) trivial) (congrArg iv hN.symm) ?_)
  refine RT.two (i := 7) (j := 9) (by kernel_rfl) rfl rfl ?_ ?_
  · refine RS.make rfl Tryd.underlying32 ty36 (by rfl) (by rfl) (by omega) (by omega) (by omega) (by omega) ?_
    intro g14
    try (refine RS.perm (List.Perm.swap (⟨g5, _, _⟩ : B) ⟨g14, _, _⟩ _) ?_)
    refine RS.nil ⟨(by repeat (first | exact List.Sublist.refl _ | exact List.nil_sublist _ | refine List.Sublist.cons_cons _ ?_ | refine List.Sublist.cons _ ?_ | exact Sbp.refl | exact Sbp.nil | refine Sbp.cons (by repeat (first | exact Rem.head | apply Rem.tail)) ?_ | exact Sbp.app | refine Sbp.skip ?_)), ?_⟩
    refine RT.take (i := 8) rfl (by kernel_rfl) rfl (QO.build ty34 pl34 (by rfl)) ?_
    refine RT.one (i := 9) (by kernel_rfl) rfl rfl ?_
    refine RS.alloc rfl ty34 ?_
    intro g5
    refine RS.nil ⟨(by repeat (first | exact List.Sublist.refl _ | exact List.nil_sublist _ | refine List.Sublist.cons_cons _ ?_ | refine List.Sublist.cons _ ?_ | exact Sbp.refl | exact Sbp.nil | refine Sbp.cons (by repeat (first | exact Rem.head | apply Rem.tail)) ?_ | exact Sbp.app | refine Sbp.skip ?_)), ?_⟩
    refine RT.tail (i := 10) (by kernel_rfl) rfl rfl ?_
    first | refine RS.storeB ty34 (by rfl) (by rfl) (by rfl) (by rfl) (by rfl) (by repeat (first | exact Upd.head | apply Upd.tail)) (by rfl) ?_ | refine RS.storeP ty34 (by rfl) (by rfl) (by rfl) (by rfl) (by rfl) (by repeat (first | exact Upd.head | apply Upd.tail)) (by rfl) ?_
    refine RS.nil ?_
    refine RT.done (by kernel_rfl) ?_
    refine thenC_n ?_
    refine CS.seq ?_
    refine CS.seq ?_
    refine CS.region ?_
    refine RS.q rfl (QO.fieldAddr fo34_1 (by rfl)) ?_
    first | (refine RS.q rfl (QO.load ty32 (by rfl) (by repeat (first | exact List.Mem.head _ | refine List.Mem.tail _ ?_)) (by rfl)) ?_) | (refine RS.q rfl (QO.loadO ty32 (by rfl) (by assumption)) ?_) | (refine RS.q rfl (QO.load ty32 (by rfl) (by repeat (first | exact List.Mem.head _ | refine List.Mem.tail _ ?_)) (by assumption)) ?_)
    refine RS.q rfl (QO.lenS Tryd.underlying32 (by rfl)) ?_
    refine RS.q rfl (QO.move) ?_
    refine RS.nil ?_
    refine thenC_n ?_
    refine CS.block ?_
    refine CS.loop (X := Nat) (6 :: 19 :: 20 :: 21 :: 22 :: 23 :: 24 :: 25 :: 26 :: 27 :: 28 :: 29 :: 30 :: []) (fun k => [(19, iv (k : Int))]) (fun k => [⟨g5, 34, [iv x, iv y, iv wi, iv he, .slice (some ⟨g14, 0, none⟩) N N]⟩, ⟨g14, 36, partL (fun i => cl (V i)) N k⟩, ⟨g4, 34, [iv 0, iv 0, iv 0, iv 0, .slice none 0 0]⟩, ⟨g2, 31, [iv x, iv y, iv wi, iv he]⟩]) (fun k => k ≤ N) (fun k => N - k) 0 (Nat.zero_le _) ?_ ?_ ?_
    · exact (by repeat (first | exact kn_nil | refine kn_cons (by rfl) ?_))
    · exact (by rw [partL_zero]; exact (by repeat (first | exact List.Sublist.refl _ | exact List.nil_sublist _ | refine List.Sublist.cons_cons _ ?_ | refine List.Sublist.cons _ ?_ | exact Sbp.refl | exact Sbp.nil | refine Sbp.cons (by repeat (first | exact Rem.head | apply Rem.tail)) ?_ | exact Sbp.app | refine Sbp.skip ?_)))
    · intro k gj3 hz
      refine CS.seq ?_
      refine CS.region ?_
      refine RS.q rfl (QO.lss (by rfl) (by rfl)) ?_
      refine RS.nil ?_
      refine thenC_n ?_
      refine CS.seq ?_
      refine CS.cond (by rfl) (fun hb0 => ?_) (fun hb0 => ?_)
      · have hb0p := of_decide_eq_true hb0
        refine CS.skip ?_
        refine thenC_n ?_
        refine CS.seq ?_
        refine CS.block ?_
        refine CS.seq ?_
        refine CS.region ?_
        refine RS.q rfl (QO.move) ?_
        refine RS.q rfl (QO.assign) ?_
        refine RS.nil ?_
        refine thenC_n ?_
        refine CS.draw 8 rfl (by kernel_rfl) (by kernel_rfl) ?_
        refine RT.take (i := 0) rfl (by kernel_rfl) rfl (QO.fieldAddr fo34_1 (by rfl)) ?_
        first | (refine RT.take (i := 1) rfl (by kernel_rfl) rfl (QO.load ty32 (by rfl) (by repeat (first | exact List.Mem.head _ | refine List.Mem.tail _ ?_)) (by rfl)) ?_) | (refine RT.take (i := 1) rfl (by kernel_rfl) rfl (QO.loadO ty32 (by rfl) (by assumption)) ?_) | (refine RT.take (i := 1) rfl (by kernel_rfl) rfl (QO.load ty32 (by rfl) (by repeat (first | exact List.Mem.head _ | refine List.Mem.tail _ ?_)) (by assumption)) ?_)
        refine RT.take (i := 2) rfl (by kernel_rfl) rfl (QO.move) ?_
        refine RT.take (i := 3) rfl (by kernel_rfl) rfl (QO.move) ?_
        refine RT.take (i := 4) rfl (by kernel_rfl) rfl (QO.move) ?_
        refine RT.one (i := 5) (by kernel_rfl) rfl rfl ?_
        refine RS.call rfl (by rfl) hok (by rfl) (fun w ho => hf _ _ ho k (by omega)) ?_
        rintro _ _ ⟨rfl, rfl⟩
        refine RS.nil ⟨(by repeat (first | exact List.Sublist.refl _ | exact List.nil_sublist _ | refine List.Sublist.cons_cons _ ?_ | refine List.Sublist.cons _ ?_ | exact Sbp.refl | exact Sbp.nil | refine Sbp.cons (by repeat (first | exact Rem.head | apply Rem.tail)) ?_ | exact Sbp.app | refine Sbp.skip ?_)), ?_⟩
        refine RT.one (i := 6) (by kernel_rfl) rfl rfl ?_
        refine RS.call rfl (by rfl) ok75 (by rfl) (fun w ho => clean _ _) ?_
        rintro _ _ ⟨rfl, rfl⟩
        refine RS.nil ⟨(by repeat (first | exact List.Sublist.refl _ | exact List.nil_sublist _ | refine List.Sublist.cons_cons _ ?_ | refine List.Sublist.cons _ ?_ | exact Sbp.refl | exact Sbp.nil | refine Sbp.cons (by repeat (first | exact Rem.head | apply Rem.tail)) ?_ | exact Sbp.app | refine Sbp.skip ?_)), ?_⟩
        first | (refine RT.take (i := 7) rfl (by kernel_rfl) rfl (QO.idx0 Tryd.underlying32 ty36 (by rfl) (by rfl) (by rfl) (by omega)) ?_) | (refine RT.take (i := 7) rfl (by kernel_rfl) rfl (QO.idxn Tryd.underlying32 ty36 (by rfl) (by rfl) (by rfl) (by omega)) ?_) | (refine RT.take (i := 7) rfl (by kernel_rfl) rfl (QO.idx1 Tryd.underlying32 ty36 (by rfl) (by rfl) (by omega) (by omega)) ?_)
        refine RT.tail (i := 8) (by kernel_rfl) rfl rfl ?_
        refine RS.store1e ty36 rfl (by rfl) (by rfl) (by rfl) (partL_set (fun i => cl (V i)) N k _ rfl (by omega)) (by repeat (first | exact Upd.head | apply Upd.tail)) (by rw [partL_len]; omega) ?_
        refine RS.nil ?_
        refine RT.done (by kernel_rfl) ?_
        refine blockC_n ?_
        refine thenC_n ?_
        refine CS.region ?_
        first | (refine RS.q rfl (QO.add (by rfl) (by rfl) (by omega) (by omega)) ?_) | (refine RS.q rfl (QO.ibin (by rfl) (by rfl) trivial) ?_)
        refine RS.q rfl (QO.move) ?_
        refine RS.nil ?_
        refine loopQ_n (by intro t ht; repeat (first | with_reducible exact rfl | exact frame_puts ht (frame_mix ht) _ rfl | (refine frame_put rfl ht ?_) | (refine frame_puts ht ?_ _ rfl) | exact frame_mix ht | (refine frame_mix2 rfl ht ?_) | exact rfl)) ?_
        exact ⟨k + 1, by omega, by omega, (by repeat (first | exact kn_nil | refine kn_cons (by rfl) ?_)), (by repeat (first | exact List.Sublist.refl _ | exact List.nil_sublist _ | refine List.Sublist.cons_cons _ ?_ | refine List.Sublist.cons _ ?_ | exact Sbp.refl | exact Sbp.nil | refine Sbp.cons (by repeat (first | exact Rem.head | apply Rem.tail)) ?_ | exact Sbp.app | refine Sbp.skip ?_))⟩
      · have hb0p := of_decide_eq_false hb0
        refine CS.exit ?_
        refine thenC_x ?_
        refine loopQ_x ?_
        refine blockC_x ?_
        refine thenC_n ?_
        refine CS.seq ?_
        refine CS.region ?_
        first | (refine RS.q rfl (QO.loadB ty34 (by rfl) (by repeat (first | exact List.Mem.head _ | refine List.Mem.tail _ ?_)) (by rfl)) ?_) | (refine RS.q rfl (QO.loadA ty34 (by rfl) (by repeat (first | exact List.Mem.head _ | refine List.Mem.tail _ ?_)) (by rfl) (by rfl)) ?_) | (refine RS.q rfl (QO.loadOA ty34 (by rfl) (by assumption) (by rfl)) ?_)
        first | refine RS.storeB ty34 (by rfl) (by rfl) (by rfl) (by rfl) (by rfl) (by repeat (first | exact Upd.head | apply Upd.tail)) (by rfl) ?_ | refine RS.storeP ty34 (by rfl) (by rfl) (by rfl) (by rfl) (by rfl) (by repeat (first | exact Upd.head | apply Upd.tail)) (by rfl) ?_
        refine RS.nil ?_
        refine thenC_n ?_
        refine CS.ret ?_
        refine retQ.mk (H' := [⟨g14, 36, ((List.range N).map fun i => cl (V i)).map flt⟩]) (.inr rfl) (RVs.cellA ty34 (by rfl) (by repeat (first | exact List.Mem.head _ | refine List.Mem.tail _ ?_)) (by rfl) RVs.nil) (by obtain rfl : k = N := (by omega); rw [partL_full]; exact (by repeat (first | exact List.Sublist.refl _ | exact List.nil_sublist _ | refine List.Sublist.cons_cons _ ?_ | refine List.Sublist.cons _ ?_ | exact Sbp.refl | exact Sbp.nil | refine Sbp.cons (by repeat (first | exact Rem.head | apply Rem.tail)) ?_ | exact Sbp.app | refine Sbp.skip ?_))) ?_
        exact ⟨g14, rfl, rfl⟩
  · refine RS.alloc rfl ty34 ?_
    intro g5
    refine RS.nil ⟨(by repeat (first | exact List.Sublist.refl _ | exact List.nil_sublist _ | refine List.Sublist.cons_cons _ ?_ | refine List.Sublist.cons _ ?_ | exact Sbp.refl | exact Sbp.nil | refine Sbp.cons (by repeat (first | exact Rem.head | apply Rem.tail)) ?_ | exact Sbp.app | refine Sbp.skip ?_)), ?_⟩
    refine RT.one (i := 7) (by kernel_rfl) rfl rfl ?_
    refine RS.make rfl Tryd.underlying32 ty36 (by rfl) (by rfl) (by omega) (by omega) (by omega) (by omega) ?_
    intro g14
    try (refine RS.perm (List.Perm.swap (⟨g5, _, _⟩ : B) ⟨g14, _, _⟩ _) ?_)
    refine RS.nil ⟨(by repeat (first | exact List.Sublist.refl _ | exact List.nil_sublist _ | refine List.Sublist.cons_cons _ ?_ | refine List.Sublist.cons _ ?_ | exact Sbp.refl | exact Sbp.nil | refine Sbp.cons (by repeat (first | exact Rem.head | apply Rem.tail)) ?_ | exact Sbp.app | refine Sbp.skip ?_)), ?_⟩
    refine RT.take (i := 8) rfl (by kernel_rfl) rfl (QO.build ty34 pl34 (by rfl)) ?_
    refine RT.tail (i := 10) (by kernel_rfl) rfl rfl ?_
    first | refine RS.storeB ty34 (by rfl) (by rfl) (by rfl) (by rfl) (by rfl) (by repeat (first | exact Upd.head | apply Upd.tail)) (by rfl) ?_ | refine RS.storeP ty34 (by rfl) (by rfl) (by rfl) (by rfl) (by rfl) (by repeat (first | exact Upd.head | apply Upd.tail)) (by rfl) ?_
    refine RS.nil ?_
    refine RT.done (by kernel_rfl) ?_
    refine thenC_n ?_
    refine CS.seq ?_
    refine CS.seq ?_
    refine CS.region ?_
    refine RS.q rfl (QO.fieldAddr fo34_1 (by rfl)) ?_
    first | (refine RS.q rfl (QO.load ty32 (by rfl) (by repeat (first | exact List.Mem.head _ | refine List.Mem.tail _ ?_)) (by rfl)) ?_) | (refine RS.q rfl (QO.loadO ty32 (by rfl) (by assumption)) ?_) | (refine RS.q rfl (QO.load ty32 (by rfl) (by repeat (first | exact List.Mem.head _ | refine List.Mem.tail _ ?_)) (by assumption)) ?_)
    refine RS.q rfl (QO.lenS Tryd.underlying32 (by rfl)) ?_
    refine RS.q rfl (QO.move) ?_
    refine RS.nil ?_
    refine thenC_n ?_
    refine CS.block ?_
    refine CS.loop (X := Nat) (6 :: 19 :: 20 :: 21 :: 22 :: 23 :: 24 :: 25 :: 26 :: 27 :: 28 :: 29 :: 30 :: []) (fun k => [(19, iv (k : Int))]) (fun k => [⟨g5, 34, [iv x, iv y, iv wi, iv he, .slice (some ⟨g14, 0, none⟩) N N]⟩, ⟨g14, 36, partL (fun i => cl (V i)) N k⟩, ⟨g4, 34, [iv 0, iv 0, iv 0, iv 0, .slice none 0 0]⟩, ⟨g2, 31, [iv x, iv y, iv wi, iv he]⟩]) (fun k => k ≤ N) (fun k => N - k) 0 (Nat.zero_le _) ?_ ?_ ?_
    · exact (by repeat (first | exact kn_nil | refine kn_cons (by rfl) ?_))
    · exact (by rw [partL_zero]; exact (by repeat (first | exact List.Sublist.refl _ | exact List.nil_sublist _ | refine List.Sublist.cons_cons _ ?_ | refine List.Sublist.cons _ ?_ | exact Sbp.refl | exact Sbp.nil | refine Sbp.cons (by repeat (first | exact Rem.head | apply Rem.tail)) ?_ | exact Sbp.app | refine Sbp.skip ?_)))
    · intro k gj3 hz
      refine CS.seq ?_
      refine CS.region ?_
      refine RS.q rfl (QO.lss (by rfl) (by rfl)) ?_
      refine RS.nil ?_
      refine thenC_n ?_
      refine CS.seq ?_
      refine CS.cond (by rfl) (fun hb1 => ?_) (fun hb1 => ?_)
      · have hb1p := of_decide_eq_true hb1
        refine CS.skip ?_
        refine thenC_n ?_
        refine CS.seq ?_
        refine CS.block ?_
        refine CS.seq ?_
        refine CS.region ?_
        refine RS.q rfl (QO.move) ?_
        refine RS.q rfl (QO.assign) ?_
        refine RS.nil ?_
        refine thenC_n ?_
        refine CS.draw 8 rfl (by kernel_rfl) (by kernel_rfl) ?_
        refine RT.take (i := 0) rfl (by kernel_rfl) rfl (QO.fieldAddr fo34_1 (by rfl)) ?_
        first | (refine RT.take (i := 1) rfl (by kernel_rfl) rfl (QO.load ty32 (by rfl) (by repeat (first | exact List.Mem.head _ | refine List.Mem.tail _ ?_)) (by rfl)) ?_) | (refine RT.take (i := 1) rfl (by kernel_rfl) rfl (QO.loadO ty32 (by rfl) (by assumption)) ?_) | (refine RT.take (i := 1) rfl (by kernel_rfl) rfl (QO.load ty32 (by rfl) (by repeat (first | exact List.Mem.head _ | refine List.Mem.tail _ ?_)) (by assumption)) ?_)
        refine RT.take (i := 2) rfl (by kernel_rfl) rfl (QO.move) ?_
        refine RT.take (i := 3) rfl (by kernel_rfl) rfl (QO.move) ?_
        refine RT.take (i := 4) rfl (by kernel_rfl) rfl (QO.move) ?_
        refine RT.one (i := 5) (by kernel_rfl) rfl rfl ?_
        refine RS.call rfl (by rfl) hok (by rfl) (fun w ho => hf _ _ ho k (by omega)) ?_
        rintro _ _ ⟨rfl, rfl⟩
        refine RS.nil ⟨(by repeat (first | exact List.Sublist.refl _ | exact List.nil_sublist _ | refine List.Sublist.cons_cons _ ?_ | refine List.Sublist.cons _ ?_ | exact Sbp.refl | exact Sbp.nil | refine Sbp.cons (by repeat (first | exact Rem.head | apply Rem.tail)) ?_ | exact Sbp.app | refine Sbp.skip ?_)), ?_⟩
        refine RT.one (i := 6) (by kernel_rfl) rfl rfl ?_
        refine RS.call rfl (by rfl) ok75 (by rfl) (fun w ho => clean _ _) ?_
        rintro _ _ ⟨rfl, rfl⟩
        refine RS.nil ⟨(by repeat (first | exact List.Sublist.refl _ | exact List.nil_sublist _ | refine List.Sublist.cons_cons _ ?_ | refine List.Sublist.cons _ ?_ | exact Sbp.refl | exact Sbp.nil | refine Sbp.cons (by repeat (first | exact Rem.head | apply Rem.tail)) ?_ | exact Sbp.app | refine Sbp.skip ?_)), ?_⟩
        first | (refine RT.take (i := 7) rfl (by kernel_rfl) rfl (QO.idx0 Tryd.underlying32 ty36 (by rfl) (by rfl) (by rfl) (by omega)) ?_) | (refine RT.take (i := 7) rfl (by kernel_rfl) rfl (QO.idxn Tryd.underlying32 ty36 (by rfl) (by rfl) (by rfl) (by omega)) ?_) | (refine RT.take (i := 7) rfl (by kernel_rfl) rfl (QO.idx1 Tryd.underlying32 ty36 (by rfl) (by rfl) (by omega) (by omega)) ?_)
        refine RT.tail (i := 8) (by kernel_rfl) rfl rfl ?_
        refine RS.store1e ty36 rfl (by rfl) (by rfl) (by rfl) (partL_set (fun i => cl (V i)) N k _ rfl (by omega)) (by repeat (first | exact Upd.head | apply Upd.tail)) (by rw [partL_len]; omega) ?_
        refine RS.nil ?_
        refine RT.done (by kernel_rfl) ?_
        refine blockC_n ?_
        refine thenC_n ?_
        refine CS.region ?_
        first | (refine RS.q rfl (QO.add (by rfl) (by rfl) (by omega) (by omega)) ?_) | (refine RS.q rfl (QO.ibin (by rfl) (by rfl) trivial) ?_)
        refine RS.q rfl (QO.move) ?_
        refine RS.nil ?_
        refine loopQ_n (by intro t ht; repeat (first | with_reducible exact rfl | exact frame_puts ht (frame_mix ht) _ rfl | (refine frame_put rfl ht ?_) | (refine frame_puts ht ?_ _ rfl) | exact frame_mix ht | (refine frame_mix2 rfl ht ?_) | exact rfl)) ?_
        exact ⟨k + 1, by omega, by omega, (by repeat (first | exact kn_nil | refine kn_cons (by rfl) ?_)), (by repeat (first | exact List.Sublist.refl _ | exact List.nil_sublist _ | refine List.Sublist.cons_cons _ ?_ | refine List.Sublist.cons _ ?_ | exact Sbp.refl | exact Sbp.nil | refine Sbp.cons (by repeat (first | exact Rem.head | apply Rem.tail)) ?_ | exact Sbp.app | refine Sbp.skip ?_))⟩
      · have hb1p := of_decide_eq_false hb1
        refine CS.exit ?_
        refine thenC_x ?_
        refine loopQ_x ?_
        refine blockC_x ?_
        refine thenC_n ?_
        refine CS.seq ?_
        refine CS.region ?_
        first | (refine RS.q rfl (QO.loadB ty34 (by rfl) (by repeat (first | exact List.Mem.head _ | refine List.Mem.tail _ ?_)) (by rfl)) ?_) | (refine RS.q rfl (QO.loadA ty34 (by rfl) (by repeat (first | exact List.Mem.head _ | refine List.Mem.tail _ ?_)) (by rfl) (by rfl)) ?_) | (refine RS.q rfl (QO.loadOA ty34 (by rfl) (by assumption) (by rfl)) ?_)
        first | refine RS.storeB ty34 (by rfl) (by rfl) (by rfl) (by rfl) (by rfl) (by repeat (first | exact Upd.head | apply Upd.tail)) (by rfl) ?_ | refine RS.storeP ty34 (by rfl) (by rfl) (by rfl) (by rfl) (by rfl) (by repeat (first | exact Upd.head | apply Upd.tail)) (by rfl) ?_
        refine RS.nil ?_
        refine thenC_n ?_
        refine CS.ret ?_
        refine retQ.mk (H' := [⟨g14, 36, ((List.range N).map fun i => cl (V i)).map flt⟩]) (.inr rfl) (RVs.cellA ty34 (by rfl) (by repeat (first | exact List.Mem.head _ | refine List.Mem.tail _ ?_)) (by rfl) RVs.nil) (by obtain rfl : k = N := (by omega); rw [partL_full]; exact (by repeat (first | exact List.Sublist.refl _ | exact List.nil_sublist _ | refine List.Sublist.cons_cons _ ?_ | refine List.Sublist.cons _ ?_ | exact Sbp.refl | exact Sbp.nil | refine Sbp.cons (by repeat (first | exact Rem.head | apply Rem.tail)) ?_ | exact Sbp.app | refine Sbp.skip ?_))) ?_
        exact ⟨g14, rfl, rfl⟩

end Go.Proofs.YtapcgokcfmklbaaDoor
