/-
  Contracts: frames filled, read, cut and pasted. Conditions: as each theorem says.
-/
import Derived.Test.YtplfeaikjgfhcaaC10
import Derived.Test.YtplfeaikjgfhcaaMut
import Derived.Test.YtplfeaikjgfhcaaCut
namespace Go.Proofs.Ytplfeaikjgfhcaa
open Go Go.Proofs Go.RowKit

theorem ok24 : callOK Try.prog 24 = true := by kernel_rfl
theorem ok25 : callOK Try.prog 25 = true := by kernel_rfl
theorem ok44 : callOK Try.prog 44 = true := by kernel_rfl
theorem ok159 : callOK Try.prog 159 = true := by kernel_rfl
theorem ok163 : callOK Try.prog 163 = true := by kernel_rfl
theorem ok168 : callOK Try.prog 168 = true := by kernel_rfl
theorem ok193 : callOK Try.prog 193 = true := by kernel_rfl
theorem ok196 : callOK Try.prog 196 = true := by kernel_rfl
theorem ok198 : callOK Try.prog 198 = true := by kernel_rfl

theorem atB_T {x y X Y W H : Int} (h : atB x y X Y W H = true) : X ≤ x ∧ Y ≤ y ∧ x ≤ X + W - 1 ∧ y ≤ Y + H - 1 := of_decide_eq_true h
theorem atB_F {x y X Y W H : Int} (h : atB x y X Y W H = false) : ¬ (X ≤ x ∧ Y ≤ y ∧ x ≤ X + W - 1 ∧ y ≤ Y + H - 1) := of_decide_eq_false h
theorem insB_at (x y X Y W H : Int) : insB x y 1 1 X Y W H = atB x y X Y W H := by
  unfold insB atB
  congr 1

set_option maxRecDepth 100000 in
theorem take_ (A : Option Addr) (n c : Nat) (xs : List Nat) (W : World) (hn : xs.length = n) (hA : FS W A xs) (h4 : 4 ≤ n) (hc : n ≤ c) (hcm : c ≤ maxLen) : Fn_ Try.prog 193 #[.slice A n c] W (fun v H => v = .tuple #[pxv (fun k => xs.getD k 0), iv 0] ∧ H = []) := by
  subst hn
  obtain ⟨bA, oA, rfl, hcell⟩ := hA (by omega)
  refine Fn_.intro Try.func193 rfl rfl (by rfl) ?_
  refine CS.seq ?_
  refine CS.region ?_
  refine RS.alloc rfl ty35 ?_
  intro g2
  refine RS.q rfl (QO.assign) ?_
  refine RS.nil ?_
  refine thenC_n ?_
  refine CS.seq ?_
  refine CS.seq ?_
  refine CS.region ?_
  refine RS.q rfl (QO.move) ?_
  refine RS.q rfl (QO.lenS Try.underlying24 (by rfl)) ?_
  refine RS.q rfl (QO.lss (by rfl) (by rfl)) ?_
  refine RS.nil ?_
  refine thenC_n ?_
  refine CS.condF (by rfl) (decide_eq_false (by omega)) ?_
  refine CS.skip ?_
  refine thenC_n ?_
  refine CS.seq ?_
  refine CS.region ?_
  refine RS.q rfl (QO.move) ?_
  refine RS.q rfl (QO.cutHi Try.underlying24 ty33 (by rfl) (by rfl) (by omega) (by omega)) ?_
  refine RS.q rfl (QO.arrPtr Try.underlying35 (by rfl) (by omega)) ?_
  refine RS.q rfl (QO.loadOA ty35 (vs := [flt (xs.getD 0 0), flt (xs.getD 1 0), flt (xs.getD 2 0), flt (xs.getD 3 0)]) (by rfl) (fun j v hj => by
    have hj4 : j < 4 := (List.getElem?_eq_some_iff.1 hj).1
    rw [idx4 (fun k => flt (xs.getD k 0)) j hj4] at hj
    cases hj
    rw [addr_add]
    exact hcell _ _ (by rw [List.getElem?_eq_getElem (show j < xs.length by omega), getD_at])) (by rfl)) ?_
  first | refine RS.storeB ty35 (by rfl) (by rfl) (by rfl) (by rfl) (by rfl) (by repeat (first | exact Upd.head | apply Upd.tail)) (by rfl) ?_ | refine RS.storeP ty35 (by rfl) (by rfl) (by rfl) (by rfl) (by rfl) (by repeat (first | exact Upd.head | apply Upd.tail)) (by rfl) ?_
  refine RS.q rfl (QO.assign) ?_
  refine RS.nil ?_
  refine thenC_n ?_
  refine CS.ret ?_
  refine retQ.mk (H' := []) (.inr rfl) (RVs.cellA ty35 (by rfl) (by repeat (first | exact List.Mem.head _ | refine List.Mem.tail _ ?_)) (by rfl) (RVs.tmp (by rfl) RVs.nil)) (List.nil_sublist _) ?_
  exact ⟨rfl, rfl⟩

set_option maxRecDepth 100000 in
theorem has (x y X Y : Int) (w h : Nat) (W : World) (hX : -1048576 ≤ X ∧ X ≤ 1048576) (hY : -1048576 ≤ Y ∧ Y ≤ 1048576) (hw : w ≤ 256) (hh : h ≤ 256) : Fn_ Try.prog 163 #[.agg #[iv X, iv Y, iv (w : Int), iv (h : Int)], iv x, iv y] W (fun v H => v = .bool (atB x y X Y w h) ∧ H = []) := by
  refine Fn_.intro Try.func163 rfl rfl (by rfl) ?_
  refine CS.seq ?_
  refine CS.region ?_
  refine RS.box rfl (by rfl) (by rfl) ?_
  intro g3
  refine RS.q rfl (QO.assign) ?_
  refine RS.nil ?_
  refine thenC_n ?_
  refine CS.seq ?_
  refine CS.region ?_
  refine RS.q rfl (QO.move) ?_
  refine RS.q rfl (QO.fieldAddr fo23_0 (by rfl)) ?_
  first | (refine RS.q rfl (QO.load ty3 (by rfl) (by repeat (first | exact List.Mem.head _ | refine List.Mem.tail _ ?_)) (by rfl)) ?_) | (refine RS.q rfl (QO.loadO ty3 (by rfl) (by assumption)) ?_) | (refine RS.q rfl (QO.load ty3 (by rfl) (by repeat (first | exact List.Mem.head _ | refine List.Mem.tail _ ?_)) (by assumption)) ?_)
  refine RS.q rfl (QO.geq (by rfl) (by rfl)) ?_
  refine RS.q rfl (QO.move) ?_
  refine RS.split (dj := 11) (by rfl) (fun hb0 => ?_) (fun hb0 => ?_)
  · have hb0p := of_decide_eq_true hb0
    refine RS.on (dj := 11) rfl (congrArg Value.bool hb0) ?_
    refine RS.q rfl (QO.move) ?_
    refine RS.on (dj := 11) rfl (congrArg Value.bool hb0) ?_
    refine RS.q rfl (QO.fieldAddr fo23_1 (by rfl)) ?_
    refine RS.on (dj := 11) rfl (congrArg Value.bool hb0) ?_
    first | (refine RS.q rfl (QO.load ty3 (by rfl) (by repeat (first | exact List.Mem.head _ | refine List.Mem.tail _ ?_)) (by rfl)) ?_) | (refine RS.q rfl (QO.loadO ty3 (by rfl) (by assumption)) ?_) | (refine RS.q rfl (QO.load ty3 (by rfl) (by repeat (first | exact List.Mem.head _ | refine List.Mem.tail _ ?_)) (by assumption)) ?_)
    refine RS.on (dj := 11) rfl (congrArg Value.bool hb0) ?_
    refine RS.q rfl (QO.geq (by rfl) (by rfl)) ?_
    refine RS.q rfl (QO.pickT (by rfl) hb0 (by rfl)) ?_
    refine RS.q rfl (QO.move) ?_
    refine RS.split (dj := 17) (by rfl) (fun hb1 => ?_) (fun hb1 => ?_)
    · have hb1p := of_decide_eq_true hb1
      refine RS.on (dj := 17) rfl (congrArg Value.bool hb1) ?_
      refine RS.q rfl (QO.move) ?_
      refine RS.on (dj := 17) rfl (congrArg Value.bool hb1) ?_
      refine RS.q rfl (QO.fieldAddr fo23_0 (by rfl)) ?_
      refine RS.on (dj := 17) rfl (congrArg Value.bool hb1) ?_
      first | (refine RS.q rfl (QO.load ty3 (by rfl) (by repeat (first | exact List.Mem.head _ | refine List.Mem.tail _ ?_)) (by rfl)) ?_) | (refine RS.q rfl (QO.loadO ty3 (by rfl) (by assumption)) ?_) | (refine RS.q rfl (QO.load ty3 (by rfl) (by repeat (first | exact List.Mem.head _ | refine List.Mem.tail _ ?_)) (by assumption)) ?_)
      refine RS.on (dj := 17) rfl (congrArg Value.bool hb1) ?_
      refine RS.q rfl (QO.fieldAddr fo23_2 (by rfl)) ?_
      refine RS.on (dj := 17) rfl (congrArg Value.bool hb1) ?_
      first | (refine RS.q rfl (QO.load ty3 (by rfl) (by repeat (first | exact List.Mem.head _ | refine List.Mem.tail _ ?_)) (by rfl)) ?_) | (refine RS.q rfl (QO.loadO ty3 (by rfl) (by assumption)) ?_) | (refine RS.q rfl (QO.load ty3 (by rfl) (by repeat (first | exact List.Mem.head _ | refine List.Mem.tail _ ?_)) (by assumption)) ?_)
      refine RS.on (dj := 17) rfl (congrArg Value.bool hb1) ?_
      first | (refine RS.q rfl (QO.add (by rfl) (by rfl) (by omega) (by omega)) ?_) | (refine RS.q rfl (QO.ibin (by rfl) (by rfl) trivial) ?_)
      refine RS.on (dj := 17) rfl (congrArg Value.bool hb1) ?_
      refine RS.q rfl (QO.lss (by rfl) (by rfl)) ?_
      refine RS.q rfl (QO.pickT (by rfl) hb1 (by rfl)) ?_
      refine RS.q rfl (QO.move) ?_
      refine RS.split (dj := 26) (by rfl) (fun hb2 => ?_) (fun hb2 => ?_)
      · have hb2p := of_decide_eq_true hb2
        refine RS.on (dj := 26) rfl (congrArg Value.bool hb2) ?_
        refine RS.q rfl (QO.move) ?_
        refine RS.on (dj := 26) rfl (congrArg Value.bool hb2) ?_
        refine RS.q rfl (QO.fieldAddr fo23_1 (by rfl)) ?_
        refine RS.on (dj := 26) rfl (congrArg Value.bool hb2) ?_
        first | (refine RS.q rfl (QO.load ty3 (by rfl) (by repeat (first | exact List.Mem.head _ | refine List.Mem.tail _ ?_)) (by rfl)) ?_) | (refine RS.q rfl (QO.loadO ty3 (by rfl) (by assumption)) ?_) | (refine RS.q rfl (QO.load ty3 (by rfl) (by repeat (first | exact List.Mem.head _ | refine List.Mem.tail _ ?_)) (by assumption)) ?_)
        refine RS.on (dj := 26) rfl (congrArg Value.bool hb2) ?_
        refine RS.q rfl (QO.fieldAddr fo23_3 (by rfl)) ?_
        refine RS.on (dj := 26) rfl (congrArg Value.bool hb2) ?_
        first | (refine RS.q rfl (QO.load ty3 (by rfl) (by repeat (first | exact List.Mem.head _ | refine List.Mem.tail _ ?_)) (by rfl)) ?_) | (refine RS.q rfl (QO.loadO ty3 (by rfl) (by assumption)) ?_) | (refine RS.q rfl (QO.load ty3 (by rfl) (by repeat (first | exact List.Mem.head _ | refine List.Mem.tail _ ?_)) (by assumption)) ?_)
        refine RS.on (dj := 26) rfl (congrArg Value.bool hb2) ?_
        first | (refine RS.q rfl (QO.add (by rfl) (by rfl) (by omega) (by omega)) ?_) | (refine RS.q rfl (QO.ibin (by rfl) (by rfl) trivial) ?_)
        refine RS.on (dj := 26) rfl (congrArg Value.bool hb2) ?_
        refine RS.q rfl (QO.lss (by rfl) (by rfl)) ?_
        refine RS.q rfl (QO.pickT (by rfl) hb2 (by rfl)) ?_
        refine RS.q rfl (QO.assign) ?_
        refine RS.nil ?_
        refine thenC_n ?_
        refine CS.ret ?_
        refine retQ.mk (H' := []) (.inr rfl) (RVs.tmp (by rfl) RVs.nil) (List.nil_sublist _) ?_
        exact ⟨congrArg Value.bool (by unfold atB; first | exact (decide_eq_false (by omega)).symm | exact decide_eq_decide.2 (by omega)), rfl⟩
      · have hb2p := of_decide_eq_false hb2
        refine RS.off (dj := 26) rfl (.inl (congrArg Value.bool hb2)) (fun _ => rfl) rfl ?_
        refine RS.off (dj := 26) rfl (.inl (congrArg Value.bool hb2)) (fun _ => rfl) rfl ?_
        refine RS.off (dj := 26) rfl (.inl (congrArg Value.bool hb2)) (fun _ => rfl) rfl ?_
        refine RS.off (dj := 26) rfl (.inl (congrArg Value.bool hb2)) (fun _ => rfl) rfl ?_
        refine RS.off (dj := 26) rfl (.inl (congrArg Value.bool hb2)) (fun _ => rfl) rfl ?_
        refine RS.off (dj := 26) rfl (.inl (congrArg Value.bool hb2)) (fun _ => rfl) rfl ?_
        refine RS.off (dj := 26) rfl (.inl (congrArg Value.bool hb2)) (fun _ => rfl) rfl ?_
        refine RS.q rfl (QO.pickF (by rfl) hb2 (by rfl)) ?_
        refine RS.q rfl (QO.assign) ?_
        refine RS.nil ?_
        refine thenC_n ?_
        refine CS.ret ?_
        refine retQ.mk (H' := []) (.inr rfl) (RVs.tmp (by rfl) RVs.nil) (List.nil_sublist _) ?_
        exact ⟨congrArg Value.bool (by unfold atB; first | exact (decide_eq_false (by omega)).symm | exact decide_eq_decide.2 (by omega)), rfl⟩
    · have hb1p := of_decide_eq_false hb1
      refine RS.off (dj := 17) rfl (.inl (congrArg Value.bool hb1)) (fun _ => rfl) rfl ?_
      refine RS.off (dj := 17) rfl (.inl (congrArg Value.bool hb1)) (fun _ => rfl) rfl ?_
      refine RS.off (dj := 17) rfl (.inl (congrArg Value.bool hb1)) (fun _ => rfl) rfl ?_
      refine RS.off (dj := 17) rfl (.inl (congrArg Value.bool hb1)) (fun _ => rfl) rfl ?_
      refine RS.off (dj := 17) rfl (.inl (congrArg Value.bool hb1)) (fun _ => rfl) rfl ?_
      refine RS.off (dj := 17) rfl (.inl (congrArg Value.bool hb1)) (fun _ => rfl) rfl ?_
      refine RS.off (dj := 17) rfl (.inl (congrArg Value.bool hb1)) (fun _ => rfl) rfl ?_
      refine RS.q rfl (QO.pickF (by rfl) hb1 (by rfl)) ?_
      refine RS.q rfl (QO.move) ?_
      refine RS.off (dj := 26) rfl (.inl (congrArg Value.bool rfl)) (fun _ => rfl) rfl ?_
      refine RS.off (dj := 26) rfl (.inl (congrArg Value.bool rfl)) (fun _ => rfl) rfl ?_
      refine RS.off (dj := 26) rfl (.inl (congrArg Value.bool rfl)) (fun _ => rfl) rfl ?_
      refine RS.off (dj := 26) rfl (.inl (congrArg Value.bool rfl)) (fun _ => rfl) rfl ?_
      refine RS.off (dj := 26) rfl (.inl (congrArg Value.bool rfl)) (fun _ => rfl) rfl ?_
      refine RS.off (dj := 26) rfl (.inl (congrArg Value.bool rfl)) (fun _ => rfl) rfl ?_
      refine RS.off (dj := 26) rfl (.inl (congrArg Value.bool rfl)) (fun _ => rfl) rfl ?_
      refine RS.q rfl (QO.pickF (by rfl) rfl (by rfl)) ?_
      refine RS.q rfl (QO.assign) ?_
      refine RS.nil ?_
      refine thenC_n ?_
      refine CS.ret ?_
      refine retQ.mk (H' := []) (.inr rfl) (RVs.tmp (by rfl) RVs.nil) (List.nil_sublist _) ?_
      exact ⟨congrArg Value.bool (by unfold atB; first | exact (decide_eq_false (by omega)).symm | exact decide_eq_decide.2 (by omega)), rfl⟩
  · have hb0p := of_decide_eq_false hb0
    refine RS.off (dj := 11) rfl (.inl (congrArg Value.bool hb0)) (fun _ => rfl) rfl ?_
    refine RS.off (dj := 11) rfl (.inl (congrArg Value.bool hb0)) (fun _ => rfl) rfl ?_
    refine RS.off (dj := 11) rfl (.inl (congrArg Value.bool hb0)) (fun _ => rfl) rfl ?_
    refine RS.off (dj := 11) rfl (.inl (congrArg Value.bool hb0)) (fun _ => rfl) rfl ?_
    refine RS.q rfl (QO.pickF (by rfl) hb0 (by rfl)) ?_
    refine RS.q rfl (QO.move) ?_
    refine RS.off (dj := 17) rfl (.inl (congrArg Value.bool rfl)) (fun _ => rfl) rfl ?_
    refine RS.off (dj := 17) rfl (.inl (congrArg Value.bool rfl)) (fun _ => rfl) rfl ?_
    refine RS.off (dj := 17) rfl (.inl (congrArg Value.bool rfl)) (fun _ => rfl) rfl ?_
    refine RS.off (dj := 17) rfl (.inl (congrArg Value.bool rfl)) (fun _ => rfl) rfl ?_
    refine RS.off (dj := 17) rfl (.inl (congrArg Value.bool rfl)) (fun _ => rfl) rfl ?_
    refine RS.off (dj := 17) rfl (.inl (congrArg Value.bool rfl)) (fun _ => rfl) rfl ?_
    refine RS.off (dj := 17) rfl (.inl (congrArg Value.bool rfl)) (fun _ => rfl) rfl ?_
    refine RS.q rfl (QO.pickF (by rfl) rfl (by rfl)) ?_
    refine RS.q rfl (QO.move) ?_
    refine RS.off (dj := 26) rfl (.inl (congrArg Value.bool rfl)) (fun _ => rfl) rfl ?_
    refine RS.off (dj := 26) rfl (.inl (congrArg Value.bool rfl)) (fun _ => rfl) rfl ?_
    refine RS.off (dj := 26) rfl (.inl (congrArg Value.bool rfl)) (fun _ => rfl) rfl ?_
    refine RS.off (dj := 26) rfl (.inl (congrArg Value.bool rfl)) (fun _ => rfl) rfl ?_
    refine RS.off (dj := 26) rfl (.inl (congrArg Value.bool rfl)) (fun _ => rfl) rfl ?_
    refine RS.off (dj := 26) rfl (.inl (congrArg Value.bool rfl)) (fun _ => rfl) rfl ?_
    refine RS.off (dj := 26) rfl (.inl (congrArg Value.bool rfl)) (fun _ => rfl) rfl ?_
    refine RS.q rfl (QO.pickF (by rfl) rfl (by rfl)) ?_
    refine RS.q rfl (QO.assign) ?_
    refine RS.nil ?_
    refine thenC_n ?_
    refine CS.ret ?_
    refine retQ.mk (H' := []) (.inr rfl) (RVs.tmp (by rfl) RVs.nil) (List.nil_sublist _) ?_
    exact ⟨congrArg Value.bool (by unfold atB; first | exact (decide_eq_false (by omega)).symm | exact decide_eq_decide.2 (by omega)), rfl⟩

set_option maxRecDepth 100000 in
theorem offset_ (X Y x y he : Int) (a i j o : Nat) (W : World) (hx : x = X + i) (hy : y = Y + j) (ho_ : o = 4 * (a * j + i)) (hX : -1048576 ≤ X ∧ X ≤ 1048576) (hY : -1048576 ≤ Y ∧ Y ≤ 1048576) (hi : i ≤ 1048576) (hj : j ≤ 1048576) (hob : o ≤ 1000000000) : Fn_ Try.prog 159 #[.agg #[iv X, iv Y, iv (a : Int), iv he], iv x, iv y] W (fun v H => v = iv (o : Int) ∧ H = []) := by
  have hmul : (j : Int) * (a : Int) = ((a * j : Nat) : Int) := by rw [Int.natCast_mul, Int.mul_comm]
  refine Fn_.intro Try.func159 rfl rfl (by rfl) ?_
  refine CS.seq ?_
  refine CS.region ?_
  refine RS.box rfl (by rfl) (by rfl) ?_
  intro g3
  refine RS.q rfl (QO.assign) ?_
  refine RS.nil ?_
  refine thenC_n ?_
  refine CS.seq ?_
  refine CS.region ?_
  refine RS.q rfl (QO.move) ?_
  refine RS.q rfl (QO.fieldAddr fo23_1 (by rfl)) ?_
  first | (refine RS.q rfl (QO.load ty3 (by rfl) (by repeat (first | exact List.Mem.head _ | refine List.Mem.tail _ ?_)) (by rfl)) ?_) | (refine RS.q rfl (QO.loadO ty3 (by rfl) (by assumption)) ?_) | (refine RS.q rfl (QO.load ty3 (by rfl) (by repeat (first | exact List.Mem.head _ | refine List.Mem.tail _ ?_)) (by assumption)) ?_)
  first | (refine RS.qv rfl (QO.sub (by rfl) (by rfl) (by omega) (by omega)) (congrArg iv (show y - Y = (j : Int) by omega)) ?_) | (refine RS.qv rfl (QO.ibin (by rfl) (by rfl) trivial) (congrArg iv (show y - Y = (j : Int) by omega)) ?_)
  refine RS.q rfl (QO.fieldAddr fo23_2 (by rfl)) ?_
  first | (refine RS.q rfl (QO.load ty3 (by rfl) (by repeat (first | exact List.Mem.head _ | refine List.Mem.tail _ ?_)) (by rfl)) ?_) | (refine RS.q rfl (QO.loadO ty3 (by rfl) (by assumption)) ?_) | (refine RS.q rfl (QO.load ty3 (by rfl) (by repeat (first | exact List.Mem.head _ | refine List.Mem.tail _ ?_)) (by assumption)) ?_)
  refine RS.qv rfl (QO.mul (by rfl) (by rfl) (by rw [hmul]; omega) (by rw [hmul]; omega)) (congrArg iv (show (j : Int) * (a : Int) = ((a * j : Nat) : Int) by rw [Int.natCast_mul, Int.mul_comm])) ?_
  refine RS.q rfl (QO.move) ?_
  first | (refine RS.q rfl (QO.add (by rfl) (by rfl) (by omega) (by omega)) ?_) | (refine RS.q rfl (QO.ibin (by rfl) (by rfl) trivial) ?_)
  refine RS.q rfl (QO.fieldAddr fo23_0 (by rfl)) ?_
  first | (refine RS.q rfl (QO.load ty3 (by rfl) (by repeat (first | exact List.Mem.head _ | refine List.Mem.tail _ ?_)) (by rfl)) ?_) | (refine RS.q rfl (QO.loadO ty3 (by rfl) (by assumption)) ?_) | (refine RS.q rfl (QO.load ty3 (by rfl) (by repeat (first | exact List.Mem.head _ | refine List.Mem.tail _ ?_)) (by assumption)) ?_)
  first | (refine RS.q rfl (QO.sub (by rfl) (by rfl) (by omega) (by omega)) ?_) | (refine RS.q rfl (QO.ibin (by rfl) (by rfl) trivial) ?_)
  first | (refine RS.qv rfl (QO.mul (by rfl) (by rfl) (by omega) (by omega)) (congrArg iv (show 4 * (((a * j : Nat) : Int) + x - X) = (o : Int) by rw [ho_]; omega)) ?_) | (refine RS.qv rfl (QO.ibin (by rfl) (by rfl) trivial) (congrArg iv (show 4 * (((a * j : Nat) : Int) + x - X) = (o : Int) by rw [ho_]; omega)) ?_)
  refine RS.q rfl (QO.assign) ?_
  refine RS.nil ?_
  refine thenC_n ?_
  refine CS.ret ?_
  refine retQ.mk (H' := []) (.inr rfl) (RVs.tmp (by rfl) RVs.nil) (List.nil_sublist _) ?_
  exact ⟨rfl, rfl⟩

def atE (x y X Y : Int) (a b : Nat) : Int := if atB x y X Y a b then 0 else 5
def atQ (xs : List Nat) (x y X Y : Int) (a b : Nat) (c : Nat) : Nat := if atB x y X Y a b then cl (pixF xs X Y a b x y c) else 0
/-- a pixel, cleaned as far as k -/
def ckL (q : Nat → Nat) (k : Nat) : List Value := [flt (if 0 < k then cl (q 0) else q 0), flt (if 1 < k then cl (q 1) else q 1), flt (if 2 < k then cl (q 2) else q 2), flt (if 3 < k then cl (q 3) else q 3)]
theorem ckL_set (q : Nat → Nat) (k : Nat) (hk : k < 4) : (ckL q k).set k (flt (cl (q k))) = ckL q (k + 1) := by
  match k, hk with
  | 0, _ => rfl
  | 1, _ => rfl
  | 2, _ => rfl
  | 3, _ => rfl
theorem ckL_at (q : Nat → Nat) (k : Nat) (hk : k < 4) : (ckL q k)[k]? = some (flt (q k)) := by
  match k, hk with
  | 0, _ => rfl
  | 1, _ => rfl
  | 2, _ => rfl
  | 3, _ => rfl
theorem at_place {x y X Y : Int} {a b : Nat} (h : atB x y X Y a b = true) : ∃ i j : Nat, x = X + i ∧ y = Y + j ∧ i < a ∧ j < b := by
  have := atB_T h
  exact ⟨(x - X).toNat, (y - Y).toNat, by omega, by omega, by omega, by omega⟩
theorem at_pix {xs : List Nat} {X Y : Int} {a b i j : Nat} (hi : i < a) (hj : j < b) (c : Nat) : pixF xs X Y a b (X + i) (Y + j) c = xs.getD (4 * (a * j + i) + c) 0 := by
  rw [pixF_at (near_in (by omega) (by omega)) (near_in (by omega) (by omega)), Nat.mul_comm a]
theorem at_bd {a b i j : Nat} (hi : i < a) (hj : j < b) : a * j + i < a * b := by
  have := (pix_bd hi hj).2.2
  rwa [Nat.mul_comm j] at this

theorem drop_pix {xs : List Nat} {X Y : Int} {a b i j o : Nat} (hi : i < a) (hj : j < b) (ho : o = 4 * (a * j + i)) : (fun k => (xs.drop o).getD k 0) = pixF xs X Y a b (X + i) (Y + j) := by
  funext c
  rw [at_pix hi hj, ← ho]
  simp [List.getD]
theorem atQ_T {xs : List Nat} {x y X Y : Int} {a b : Nat} (h : atB x y X Y a b = true) (c : Nat) : atQ xs x y X Y a b c = cl (pixF xs X Y a b x y c) := if_pos h
theorem atQ_F {xs : List Nat} {x y X Y : Int} {a b : Nat} (h : atB x y X Y a b = false) (c : Nat) : atQ xs x y X Y a b c = 0 := if_neg (by rw [h]; decide)
theorem pxe {q r : Nat → Nat} {e f : Int} (h : ∀ c, q c = r c) (h2 : e = f) : Value.tuple #[pxv q, iv e] = Value.tuple #[pxv r, iv f] := by obtain rfl : q = r := funext h; subst h2; rfl

set_option maxRecDepth 100000 in
theorem at_ (x y : Int) (X Y : Int) (a b : Nat) (A : Option Addr) (n c : Nat) (xs : List Nat) (W : World) (hn : xs.length = n) (hA : FS W A xs) (hN : n = 4 * (a * b)) (hc : n ≤ c) (hcm : c ≤ maxLen) (hX : -1048576 ≤ X ∧ X ≤ 1048576) (hY : -1048576 ≤ Y ∧ Y ≤ 1048576) (ha : 1 ≤ a ∧ a ≤ 256) (hb : 1 ≤ b ∧ b ≤ 256) (hfr : frErr X Y a b n = 0) : Fn_ Try.prog 97 #[.agg #[iv X, iv Y, iv (a : Int), iv (b : Int), .slice A n c], iv x, iv y] W (fun v H => v = .tuple #[pxv (atQ xs x y X Y a b), iv (atE x y X Y a b)] ∧ H = []) := by
  subst hn
  have hA' := hA
  obtain ⟨bA, oA, rfl, hcell⟩ := hA (by have := Nat.mul_le_mul ha.1 hb.1; omega)
  refine Fn_.intro Try.func97 rfl rfl (by rfl) ?_
  refine CS.seq ?_
  refine CS.region ?_
  refine RS.box rfl (by rfl) (by rfl) ?_
  intro g3
  refine RS.alloc rfl ty35 ?_
  intro g6
  refine RS.q rfl (QO.assign) ?_
  refine RS.nil ?_
  refine thenC_n ?_
  refine CS.seq ?_
  refine CS.seq ?_
  refine CS.region ?_
  first | (refine RS.q rfl (QO.loadB ty26 (by rfl) (by repeat (first | exact List.Mem.head _ | refine List.Mem.tail _ ?_)) (by rfl)) ?_) | (refine RS.q rfl (QO.loadA ty26 (by rfl) (by repeat (first | exact List.Mem.head _ | refine List.Mem.tail _ ?_)) (by rfl) (by rfl)) ?_) | (refine RS.q rfl (QO.loadOA ty26 (by rfl) (by assumption) (by rfl)) ?_)
  refine RS.call rfl (by rfl) ok116 (by rfl) (fun w ho => check _ _ _ _ _ _ _ _) ?_
  rintro _ _ ⟨rfl, rfl⟩
  refine RS.q rfl (QO.assign) ?_
  refine RS.nil ?_
  refine thenC_n ?_
  refine CS.seq ?_
  refine CS.region ?_
  refine RS.q rfl (QO.move) ?_
  refine RS.qv rfl (QO.neq (by rfl) (by rfl)) (congrArg Value.bool (show (frErr X Y (a : Int) (b : Int) xs.length != 0) = false from by rw [hfr]; rfl)) ?_
  refine RS.nil ?_
  refine thenC_n ?_
  refine CS.condF (by rfl) rfl ?_
  refine CS.skip ?_
  refine thenC_n ?_
  refine CS.seq ?_
  refine CS.seq ?_
  refine CS.region ?_
  refine RS.q rfl (QO.fieldAddr fo26_0 (by rfl)) ?_
  first | (refine RS.q rfl (QO.loadB ty23 (by rfl) (by repeat (first | exact List.Mem.head _ | refine List.Mem.tail _ ?_)) (by rfl)) ?_) | (refine RS.q rfl (QO.loadA ty23 (by rfl) (by repeat (first | exact List.Mem.head _ | refine List.Mem.tail _ ?_)) (by rfl) (by rfl)) ?_) | (refine RS.q rfl (QO.loadOA ty23 (by rfl) (by assumption) (by rfl)) ?_)
  refine RS.q rfl (QO.move) ?_
  refine RS.q rfl (QO.move) ?_
  refine RS.call rfl (by rfl) ok163 (by rfl) (fun w ho => has x y X Y a b _ hX hY ha.2 hb.2) ?_
  rintro _ _ ⟨rfl, rfl⟩
  refine RS.q rfl (QO.not (by rfl)) ?_
  refine RS.nil ?_
  refine thenC_n ?_
  refine CS.cond (by rfl) (fun hb0 => ?_) (fun hb0 => ?_)
  · have hb0p := Eq.mp (Bool.not_eq_true' _) hb0
    refine CS.seq ?_
    refine CS.region ?_
    refine RS.q rfl (QO.buildA Try.underlying35 ty35 ty33 (by rfl)) ?_
    first | refine RS.storeB ty35 (by rfl) (by rfl) (by rfl) (by rfl) (by rfl) (by repeat (first | exact Upd.head | apply Upd.tail)) (by rfl) ?_ | refine RS.storeP ty35 (by rfl) (by rfl) (by rfl) (by rfl) (by rfl) (by repeat (first | exact Upd.head | apply Upd.tail)) (by rfl) ?_
    refine RS.q rfl (QO.assign) ?_
    refine RS.nil ?_
    refine thenC_n ?_
    refine CS.ret ?_
    refine thenC_r ?_
    refine retQ.mk (H' := []) (.inr rfl) (RVs.cellA ty35 (by rfl) (by repeat (first | exact List.Mem.head _ | refine List.Mem.tail _ ?_)) (by rfl) (RVs.tmp (by rfl) RVs.nil)) (List.nil_sublist _) ?_
    exact ⟨pxe (fun c => (atQ_F hb0p c).symm) (if_neg (by rw [hb0p]; decide)).symm, rfl⟩
  · have hb0p := Eq.mp (Bool.not_eq_false' _) hb0
    refine CS.skip ?_
    refine thenC_n ?_
    refine CS.cut (X := Nat) (9 :: 10 :: 25 :: 26 :: 27 :: 28 :: 29 :: 30 :: 31 :: 32 :: 33 :: 34 :: 35 :: 36 :: []) (fun g => [(9, .pointer (some ⟨g, 0, none⟩)), (10, iv 0)]) (fun g => [⟨g, 35, [flt (pixF xs X Y a b x y 0), flt (pixF xs X Y a b x y 1), flt (pixF xs X Y a b x y 2), flt (pixF xs X Y a b x y 3)]⟩, ⟨g6, 35, [flt 0, flt 0, flt 0, flt 0]⟩, ⟨g3, 26, [iv X, iv Y, iv (a : Int), iv (b : Int), .slice (some ⟨bA, oA, none⟩) xs.length c]⟩]) (fun g => True) ?_ ?_
    · refine CS.draw 15 rfl (by kernel_rfl) (by kernel_rfl) ?_
      obtain ⟨i, j, rfl, rfl, hi, hj⟩ := at_place hb0p
      obtain ⟨o, ho_⟩ : ∃ o, o = 4 * (a * j + i) := ⟨_, rfl⟩
      have hbd := at_bd hi hj
      have hab2 := Nat.mul_le_mul ha.2 hb.2
      refine RT.take (i := 0) rfl (by kernel_rfl) rfl (QO.fieldAddr fo26_1 (by rfl)) ?_
      first | (refine RT.take (i := 1) rfl (by kernel_rfl) rfl (QO.load ty24 (by rfl) (by repeat (first | exact List.Mem.head _ | refine List.Mem.tail _ ?_)) (by rfl)) ?_) | (refine RT.take (i := 1) rfl (by kernel_rfl) rfl (QO.loadO ty24 (by rfl) (by assumption)) ?_) | (refine RT.take (i := 1) rfl (by kernel_rfl) rfl (QO.load ty24 (by rfl) (by repeat (first | exact List.Mem.head _ | refine List.Mem.tail _ ?_)) (by assumption)) ?_)
      refine RT.take (i := 2) rfl (by kernel_rfl) rfl (QO.fieldAddr fo26_0 (by rfl)) ?_
      first | (refine RT.take (i := 3) rfl (by kernel_rfl) rfl (QO.loadB ty23 (by rfl) (by repeat (first | exact List.Mem.head _ | refine List.Mem.tail _ ?_)) (by rfl)) ?_) | (refine RT.take (i := 3) rfl (by kernel_rfl) rfl (QO.loadA ty23 (by rfl) (by repeat (first | exact List.Mem.head _ | refine List.Mem.tail _ ?_)) (by rfl) (by rfl)) ?_) | (refine RT.take (i := 3) rfl (by kernel_rfl) rfl (QO.loadOA ty23 (by rfl) (by assumption) (by rfl)) ?_)
      refine RT.take (i := 4) rfl (by kernel_rfl) rfl (QO.move) ?_
      refine RT.take (i := 5) rfl (by kernel_rfl) rfl (QO.move) ?_
      refine RT.two (i := 6) (j := 12) (by kernel_rfl) rfl rfl ?_ ?_
      · refine RS.call rfl (by rfl) ok159 (by rfl) (fun w ho => offset_ X Y (X + i) (Y + j) b a i j o _ rfl rfl ho_ hX hY (by omega) (by omega) (by omega)) ?_
        rintro _ _ ⟨rfl, rfl⟩
        refine RS.nil ⟨(by repeat (first | exact List.Sublist.refl _ | exact List.nil_sublist _ | refine List.Sublist.cons_cons _ ?_ | refine List.Sublist.cons _ ?_ | exact Sbp.refl | exact Sbp.nil | refine Sbp.cons (by repeat (first | exact Rem.head | apply Rem.tail)) ?_ | exact Sbp.app | refine Sbp.skip ?_)), ?_⟩
        refine RT.takev (i := 7) rfl (by kernel_rfl) rfl (QO.cutLo Try.underlying24 ty33 (by rfl) (by rfl) (by omega) (by omega)) (show _ = Value.slice (cutAt bA oA o c 1) (xs.drop o).length (c - o) from by rw [List.length_drop]; rfl) ?_
        refine RT.two (i := 8) (j := 12) (by kernel_rfl) rfl rfl ?_ ?_
        · refine RS.call rfl (by rfl) ok193 (by rfl) (fun w ho => take_ _ _ _ (xs.drop o) _ rfl ((FS.drop hA' o hc).own ho) (by rw [List.length_drop]; omega) (by rw [List.length_drop]; omega) (by omega)) ?_
          rintro _ _ ⟨rfl, rfl⟩
          refine RS.nil ⟨(by repeat (first | exact List.Sublist.refl _ | exact List.nil_sublist _ | refine List.Sublist.cons_cons _ ?_ | refine List.Sublist.cons _ ?_ | exact Sbp.refl | exact Sbp.nil | refine Sbp.cons (by repeat (first | exact Rem.head | apply Rem.tail)) ?_ | exact Sbp.app | refine Sbp.skip ?_)), ?_⟩
          refine RT.take (i := 9) rfl (by kernel_rfl) rfl (QO.move) ?_
          refine RT.takev (i := 10) rfl (by kernel_rfl) rfl (QO.extract (by rfl) (by rfl)) (show pxv (fun k => (xs.drop o).getD k 0) = pxv (pixF xs X Y a b (X + i) (Y + j)) from congrArg pxv (drop_pix hi hj ho_)) ?_
          refine RT.take (i := 11) rfl (by kernel_rfl) rfl (QO.extract (by rfl) (by rfl)) ?_
          refine RT.one (i := 12) (by kernel_rfl) rfl rfl ?_
          refine RS.alloc rfl ty35 ?_
          intro g9
          refine RS.nil ⟨(by repeat (first | exact List.Sublist.refl _ | exact List.nil_sublist _ | refine List.Sublist.cons_cons _ ?_ | refine List.Sublist.cons _ ?_ | exact Sbp.refl | exact Sbp.nil | refine Sbp.cons (by repeat (first | exact Rem.head | apply Rem.tail)) ?_ | exact Sbp.app | refine Sbp.skip ?_)), ?_⟩
          refine RT.one (i := 13) (by kernel_rfl) rfl rfl ?_
          first | refine RS.storeB ty35 (by rfl) (by rfl) (by rfl) (by rfl) (by rfl) (by repeat (first | exact Upd.head | apply Upd.tail)) (by rfl) ?_ | refine RS.storeP ty35 (by rfl) (by rfl) (by rfl) (by rfl) (by rfl) (by repeat (first | exact Upd.head | apply Upd.tail)) (by rfl) ?_
          refine RS.nil ⟨(by repeat (first | exact List.Sublist.refl _ | exact List.nil_sublist _ | refine List.Sublist.cons_cons _ ?_ | refine List.Sublist.cons _ ?_ | exact Sbp.refl | exact Sbp.nil | refine Sbp.cons (by repeat (first | exact Rem.head | apply Rem.tail)) ?_ | exact Sbp.app | refine Sbp.skip ?_)), ?_⟩
          refine RT.take (i := 14) rfl (by kernel_rfl) rfl (QO.assign) ?_
          refine RT.done (by kernel_rfl) ?_
          refine cutQ_n (by intro t ht; repeat (first | exact frame_puts ht (frame_mix ht) _ rfl | (refine frame_put rfl ht ?_) | (refine frame_puts ht ?_ _ rfl) | exact frame_mix ht | (refine frame_mix2 rfl ht ?_) | exact rfl)) ?_
          exact ⟨g9, trivial, (by repeat (first | exact kn_nil | refine kn_cons (by rfl) ?_)), (by repeat (first | exact List.Sublist.refl _ | exact List.nil_sublist _ | refine List.Sublist.cons_cons _ ?_ | refine List.Sublist.cons _ ?_ | exact Sbp.refl | exact Sbp.nil | refine Sbp.cons (by repeat (first | exact Rem.head | apply Rem.tail)) ?_ | exact Sbp.app | refine Sbp.skip ?_))⟩
        · refine RS.alloc rfl ty35 ?_
          intro g9
          refine RS.nil ⟨(by repeat (first | exact List.Sublist.refl _ | exact List.nil_sublist _ | refine List.Sublist.cons_cons _ ?_ | refine List.Sublist.cons _ ?_ | exact Sbp.refl | exact Sbp.nil | refine Sbp.cons (by repeat (first | exact Rem.head | apply Rem.tail)) ?_ | exact Sbp.app | refine Sbp.skip ?_)), ?_⟩
          refine RT.one (i := 8) (by kernel_rfl) rfl rfl ?_
          refine RS.call rfl (by rfl) ok193 (by rfl) (fun w ho => take_ _ _ _ (xs.drop o) _ rfl ((FS.drop hA' o hc).own ho) (by rw [List.length_drop]; omega) (by rw [List.length_drop]; omega) (by omega)) ?_
          rintro _ _ ⟨rfl, rfl⟩
          refine RS.nil ⟨(by repeat (first | exact List.Sublist.refl _ | exact List.nil_sublist _ | refine List.Sublist.cons_cons _ ?_ | refine List.Sublist.cons _ ?_ | exact Sbp.refl | exact Sbp.nil | refine Sbp.cons (by repeat (first | exact Rem.head | apply Rem.tail)) ?_ | exact Sbp.app | refine Sbp.skip ?_)), ?_⟩
          refine RT.take (i := 9) rfl (by kernel_rfl) rfl (QO.move) ?_
          refine RT.takev (i := 10) rfl (by kernel_rfl) rfl (QO.extract (by rfl) (by rfl)) (show pxv (fun k => (xs.drop o).getD k 0) = pxv (pixF xs X Y a b (X + i) (Y + j)) from congrArg pxv (drop_pix hi hj ho_)) ?_
          refine RT.take (i := 11) rfl (by kernel_rfl) rfl (QO.extract (by rfl) (by rfl)) ?_
          refine RT.one (i := 13) (by kernel_rfl) rfl rfl ?_
          first | refine RS.storeB ty35 (by rfl) (by rfl) (by rfl) (by rfl) (by rfl) (by repeat (first | exact Upd.head | apply Upd.tail)) (by rfl) ?_ | refine RS.storeP ty35 (by rfl) (by rfl) (by rfl) (by rfl) (by rfl) (by repeat (first | exact Upd.head | apply Upd.tail)) (by rfl) ?_
          refine RS.nil ⟨(by repeat (first | exact List.Sublist.refl _ | exact List.nil_sublist _ | refine List.Sublist.cons_cons _ ?_ | refine List.Sublist.cons _ ?_ | exact Sbp.refl | exact Sbp.nil | refine Sbp.cons (by repeat (first | exact Rem.head | apply Rem.tail)) ?_ | exact Sbp.app | refine Sbp.skip ?_)), ?_⟩
          refine RT.take (i := 14) rfl (by kernel_rfl) rfl (QO.assign) ?_
          refine RT.done (by kernel_rfl) ?_
          refine cutQ_n (by intro t ht; repeat (first | exact frame_puts ht (frame_mix ht) _ rfl | (refine frame_put rfl ht ?_) | (refine frame_puts ht ?_ _ rfl) | exact frame_mix ht | (refine frame_mix2 rfl ht ?_) | exact rfl)) ?_
          exact ⟨g9, trivial, (by repeat (first | exact kn_nil | refine kn_cons (by rfl) ?_)), (by repeat (first | exact List.Sublist.refl _ | exact List.nil_sublist _ | refine List.Sublist.cons_cons _ ?_ | refine List.Sublist.cons _ ?_ | exact Sbp.refl | exact Sbp.nil | refine Sbp.cons (by repeat (first | exact Rem.head | apply Rem.tail)) ?_ | exact Sbp.app | refine Sbp.skip ?_))⟩
      · refine RS.alloc rfl ty35 ?_
        intro g9
        refine RS.nil ⟨(by repeat (first | exact List.Sublist.refl _ | exact List.nil_sublist _ | refine List.Sublist.cons_cons _ ?_ | refine List.Sublist.cons _ ?_ | exact Sbp.refl | exact Sbp.nil | refine Sbp.cons (by repeat (first | exact Rem.head | apply Rem.tail)) ?_ | exact Sbp.app | refine Sbp.skip ?_)), ?_⟩
        refine RT.one (i := 6) (by kernel_rfl) rfl rfl ?_
        refine RS.call rfl (by rfl) ok159 (by rfl) (fun w ho => offset_ X Y (X + i) (Y + j) b a i j o _ rfl rfl ho_ hX hY (by omega) (by omega) (by omega)) ?_
        rintro _ _ ⟨rfl, rfl⟩
        refine RS.nil ⟨(by repeat (first | exact List.Sublist.refl _ | exact List.nil_sublist _ | refine List.Sublist.cons_cons _ ?_ | refine List.Sublist.cons _ ?_ | exact Sbp.refl | exact Sbp.nil | refine Sbp.cons (by repeat (first | exact Rem.head | apply Rem.tail)) ?_ | exact Sbp.app | refine Sbp.skip ?_)), ?_⟩
        refine RT.takev (i := 7) rfl (by kernel_rfl) rfl (QO.cutLo Try.underlying24 ty33 (by rfl) (by rfl) (by omega) (by omega)) (show _ = Value.slice (cutAt bA oA o c 1) (xs.drop o).length (c - o) from by rw [List.length_drop]; rfl) ?_
        refine RT.one (i := 8) (by kernel_rfl) rfl rfl ?_
        refine RS.call rfl (by rfl) ok193 (by rfl) (fun w ho => take_ _ _ _ (xs.drop o) _ rfl ((FS.drop hA' o hc).own ho) (by rw [List.length_drop]; omega) (by rw [List.length_drop]; omega) (by omega)) ?_
        rintro _ _ ⟨rfl, rfl⟩
        refine RS.nil ⟨(by repeat (first | exact List.Sublist.refl _ | exact List.nil_sublist _ | refine List.Sublist.cons_cons _ ?_ | refine List.Sublist.cons _ ?_ | exact Sbp.refl | exact Sbp.nil | refine Sbp.cons (by repeat (first | exact Rem.head | apply Rem.tail)) ?_ | exact Sbp.app | refine Sbp.skip ?_)), ?_⟩
        refine RT.take (i := 9) rfl (by kernel_rfl) rfl (QO.move) ?_
        refine RT.takev (i := 10) rfl (by kernel_rfl) rfl (QO.extract (by rfl) (by rfl)) (show pxv (fun k => (xs.drop o).getD k 0) = pxv (pixF xs X Y a b (X + i) (Y + j)) from congrArg pxv (drop_pix hi hj ho_)) ?_
        refine RT.take (i := 11) rfl (by kernel_rfl) rfl (QO.extract (by rfl) (by rfl)) ?_
        refine RT.one (i := 13) (by kernel_rfl) rfl rfl ?_
        first | refine RS.storeB ty35 (by rfl) (by rfl) (by rfl) (by rfl) (by rfl) (by repeat (first | exact Upd.head | apply Upd.tail)) (by rfl) ?_ | refine RS.storeP ty35 (by rfl) (by rfl) (by rfl) (by rfl) (by rfl) (by repeat (first | exact Upd.head | apply Upd.tail)) (by rfl) ?_
        refine RS.nil ⟨(by repeat (first | exact List.Sublist.refl _ | exact List.nil_sublist _ | refine List.Sublist.cons_cons _ ?_ | refine List.Sublist.cons _ ?_ | exact Sbp.refl | exact Sbp.nil | refine Sbp.cons (by repeat (first | exact Rem.head | apply Rem.tail)) ?_ | exact Sbp.app | refine Sbp.skip ?_)), ?_⟩
        refine RT.take (i := 14) rfl (by kernel_rfl) rfl (QO.assign) ?_
        refine RT.done (by kernel_rfl) ?_
        refine cutQ_n (by intro t ht; repeat (first | exact frame_puts ht (frame_mix ht) _ rfl | (refine frame_put rfl ht ?_) | (refine frame_puts ht ?_ _ rfl) | exact frame_mix ht | (refine frame_mix2 rfl ht ?_) | exact rfl)) ?_
        exact ⟨g9, trivial, (by repeat (first | exact kn_nil | refine kn_cons (by rfl) ?_)), (by repeat (first | exact List.Sublist.refl _ | exact List.nil_sublist _ | refine List.Sublist.cons_cons _ ?_ | refine List.Sublist.cons _ ?_ | exact Sbp.refl | exact Sbp.nil | refine Sbp.cons (by repeat (first | exact Rem.head | apply Rem.tail)) ?_ | exact Sbp.app | refine Sbp.skip ?_))⟩
    · intro g gj hz
      refine CS.seq ?_
      refine CS.seq ?_
      refine CS.region ?_
      refine RS.q rfl (QO.move) ?_
      refine RS.nil ?_
      refine thenC_n ?_
      refine CS.block ?_
      refine CS.loop (X := Nat) [11, 37, 38, 39, 40, 41, 42, 43, 44, 45, 46] (fun k => [(37, iv (k : Int))]) (fun k => [⟨g, 35, ckL (pixF xs X Y a b x y) k⟩, ⟨g6, 35, [flt 0, flt 0, flt 0, flt 0]⟩, ⟨g3, 26, [iv X, iv Y, iv (a : Int), iv (b : Int), .slice (some ⟨bA, oA, none⟩) xs.length c]⟩]) (fun k => k ≤ 4) (fun k => 4 - k) 0 (by omega) ?_ ?_ ?_
      · exact (by repeat (first | exact kn_nil | refine kn_cons (by rfl) ?_))
      · exact (by repeat (first | exact List.Sublist.refl _ | exact List.nil_sublist _ | refine List.Sublist.cons_cons _ ?_ | refine List.Sublist.cons _ ?_ | exact Sbp.refl | exact Sbp.nil | refine Sbp.cons (by repeat (first | exact Rem.head | apply Rem.tail)) ?_ | exact Sbp.app | refine Sbp.skip ?_))
      · intro k gj8 hz
        refine CS.seq ?_
        refine CS.region ?_
        refine RS.q rfl (QO.lss (by rfl) (by rfl)) ?_
        refine RS.nil ?_
        refine thenC_n ?_
        refine CS.seq ?_
        refine CS.cond (by rfl) (fun hb1 => ?_) (fun hb1 => ?_)
        · have hb1p := of_decide_eq_true hb1
          refine CS.skip ?_
          refine thenC_n ?_
          refine CS.seq ?_
          refine CS.block ?_
          refine CS.seq ?_
          refine CS.region ?_
          refine RS.q rfl (QO.move) ?_
          refine RS.q rfl (QO.assign) ?_
          refine RS.nil ?_
          refine thenC_n ?_
          refine CS.region ?_
          refine RS.q rfl (QO.move) ?_
          refine RS.q rfl (QO.move) ?_
          first | (refine RS.q rfl (QO.idxArr0 Try.underlying35 ty33 (by rfl) (by rfl) (by rfl) (by omega)) ?_) | (refine RS.q rfl (QO.idxArrn Try.underlying35 ty33 (by rfl) (by rfl) (by rfl) (by omega)) ?_) | (refine RS.q rfl (QO.idxArr Try.underlying35 ty33 (by rfl) (by rfl) (by omega) (by omega)) ?_)
          refine RS.q rfl (QO.load ty33 (by rfl) (by repeat (first | exact List.Mem.head _ | refine List.Mem.tail _ ?_)) (ckL_at _ k (by omega))) ?_
          refine RS.call rfl (by rfl) ok117 (by rfl) (fun w ho => clean _ _) ?_
          rintro _ _ ⟨rfl, rfl⟩
          first | (refine RS.q rfl (QO.idxArr0 Try.underlying35 ty33 (by rfl) (by rfl) (by rfl) (by omega)) ?_) | (refine RS.q rfl (QO.idxArrn Try.underlying35 ty33 (by rfl) (by rfl) (by rfl) (by omega)) ?_) | (refine RS.q rfl (QO.idxArr Try.underlying35 ty33 (by rfl) (by rfl) (by omega) (by omega)) ?_)
          refine RS.store1e ty33 rfl (by rfl) (by rfl) (by rfl) (ckL_set _ k (by omega)) (by repeat (first | exact Upd.head | apply Upd.tail)) (by show k < 4; omega) ?_
          refine RS.nil ?_
          refine blockC_n ?_
          refine thenC_n ?_
          refine CS.region ?_
          first | (refine RS.q rfl (QO.add (by rfl) (by rfl) (by omega) (by omega)) ?_) | (refine RS.q rfl (QO.ibin (by rfl) (by rfl) trivial) ?_)
          refine RS.q rfl (QO.move) ?_
          refine RS.nil ?_
          refine loopQ_n (by intro t ht; repeat (first | exact frame_puts ht (frame_mix ht) _ rfl | (refine frame_put rfl ht ?_) | (refine frame_puts ht ?_ _ rfl) | exact frame_mix ht | (refine frame_mix2 rfl ht ?_) | exact rfl)) ?_
          exact ⟨k + 1, by omega, by omega, (by repeat (first | exact kn_nil | refine kn_cons (by rfl) ?_)), (by repeat (first | exact List.Sublist.refl _ | exact List.nil_sublist _ | refine List.Sublist.cons_cons _ ?_ | refine List.Sublist.cons _ ?_ | exact Sbp.refl | exact Sbp.nil | refine Sbp.cons (by repeat (first | exact Rem.head | apply Rem.tail)) ?_ | exact Sbp.app | refine Sbp.skip ?_))⟩
        · have hb1p := of_decide_eq_false hb1
          refine CS.exit ?_
          refine thenC_x ?_
          refine loopQ_x ?_
          refine blockC_x ?_
          refine thenC_n ?_
          refine CS.seq ?_
          refine CS.region ?_
          first | (refine RS.q rfl (QO.loadB ty35 (by rfl) (by repeat (first | exact List.Mem.head _ | refine List.Mem.tail _ ?_)) (by rfl)) ?_) | (refine RS.q rfl (QO.loadA ty35 (by rfl) (by repeat (first | exact List.Mem.head _ | refine List.Mem.tail _ ?_)) (by rfl) (by rfl)) ?_) | (refine RS.q rfl (QO.loadOA ty35 (by rfl) (by assumption) (by rfl)) ?_)
          refine RS.q rfl (QO.move) ?_
          first | refine RS.storeB ty35 (by rfl) (by rfl) (by rfl) (by rfl) (by rfl) (by repeat (first | exact Upd.head | apply Upd.tail)) (by rfl) ?_ | refine RS.storeP ty35 (by rfl) (by rfl) (by rfl) (by rfl) (by rfl) (by repeat (first | exact Upd.head | apply Upd.tail)) (by rfl) ?_
          refine RS.q rfl (QO.assign) ?_
          refine RS.nil ?_
          refine thenC_n ?_
          refine CS.ret ?_
          refine retQ.mk (H' := []) (.inr rfl) (RVs.cellA ty35 (by rfl) (by repeat (first | exact List.Mem.head _ | refine List.Mem.tail _ ?_)) (by rfl) (RVs.tmp (by rfl) RVs.nil)) (List.nil_sublist _) ?_
          obtain rfl : k = 4 := by omega
          exact ⟨pxe (fun c => (atQ_T hb0p c).symm) (if_pos hb0p).symm, rfl⟩

set_option maxRecDepth 100000 in
theorem fill1 (k g : Nat) (q : Nat → Nat) (W : World) (hg : ∀ j v, [flt (q 0), flt (q 1), flt (q 2), flt (q 3)][j]? = some v → W.cell? ((⟨g, 0, none⟩ : Addr).add j) = some v) : Fn_ Try.prog 192 #[iv (k : Int), .pointer (some ⟨g, 0, none⟩)] W (fun v H => v = flt (q (k % 4)) ∧ H = []) := by
  refine Fn_.intro Try.func192 rfl rfl (by rfl) ?_
  refine CS.seq ?_
  refine CS.region ?_
  refine RS.q rfl (QO.assign) ?_
  refine RS.nil ?_
  refine thenC_n ?_
  refine CS.seq ?_
  refine CS.region ?_
  refine RS.q rfl (QO.move) ?_
  refine RS.qv rfl (QO.rem (by rfl) (by rfl) (by omega)) (congrArg iv (tmod4 k)) ?_
  first | (refine RS.q rfl (QO.idxArr0 Try.underlying35 ty33 (by rfl) (by rfl) (by rfl) (by omega)) ?_) | (refine RS.q rfl (QO.idxArrn Try.underlying35 ty33 (by rfl) (by rfl) (by rfl) (by omega)) ?_) | (refine RS.q rfl (QO.idxArr Try.underlying35 ty33 (by rfl) (by rfl) (by omega) (by omega)) ?_)
  refine RS.q rfl (QO.loadO ty33 (by rfl) (by have := hg (k % 4) _ (idx4 (fun c => flt (q c)) (k % 4) (Nat.mod_lt _ (by omega))); rwa [addr_add, Nat.zero_add] at this)) ?_
  refine RS.q rfl (QO.assign) ?_
  refine RS.nil ?_
  refine thenC_n ?_
  refine CS.ret ?_
  refine retQ.mk (H' := []) (.inr rfl) (RVs.tmp (by rfl) RVs.nil) (List.nil_sublist _) ?_
  exact ⟨rfl, rfl⟩

/-- a frame of one pixel: its numbers -/
def fillV (q : Nat → Nat) (N : Nat) : List Nat := (List.range N).map fun i => cl (q (i % 4))
theorem fillV_len (q : Nat → Nat) (N : Nat) : (fillV q N).length = N := by simp [fillV]
theorem fillV_made (q : Nat → Nat) (X Y : Int) (a N : Nat) : madeV (fun _ _ c => q c) X Y a N = fillV q N := rfl

set_option maxRecDepth 100000 in
theorem fill_ (x y wi he : Int) (q : Nat → Nat) (W : World) : Fn_ Try.prog 94 #[.agg #[iv x, iv y, iv wi, iv he], pxv q] W (fun v H => FrR (regErr x y wi he) x y wi he (fillV q (4 * wi * he).toNat) v H) := by
  refine Fn_.intro Try.func94 rfl rfl (by rfl) ?_
  refine CS.seq ?_
  refine CS.region ?_
  refine RS.box rfl (by rfl) (by rfl) ?_
  intro g2
  refine RS.box rfl (by rfl) (by rfl) ?_
  intro g3
  refine RS.alloc rfl ty26 ?_
  intro g4
  refine RS.q rfl (QO.assign) ?_
  refine RS.nil ?_
  refine thenC_n ?_
  refine CS.seq ?_
  refine CS.seq ?_
  refine CS.region ?_
  first | (refine RS.q rfl (QO.loadB ty23 (by rfl) (by repeat (first | exact List.Mem.head _ | refine List.Mem.tail _ ?_)) (by rfl)) ?_) | (refine RS.q rfl (QO.loadA ty23 (by rfl) (by repeat (first | exact List.Mem.head _ | refine List.Mem.tail _ ?_)) (by rfl) (by rfl)) ?_) | (refine RS.q rfl (QO.loadOA ty23 (by rfl) (by assumption) (by rfl)) ?_)
  refine RS.call rfl (by rfl) ok36 (by rfl) (fun w ho => checkRegion _ _ _ _ _) ?_
  rintro _ _ ⟨rfl, rfl⟩
  refine RS.q rfl (QO.assign) ?_
  refine RS.nil ?_
  refine thenC_n ?_
  refine CS.seq ?_
  refine CS.region ?_
  refine RS.q rfl (QO.move) ?_
  refine RS.q rfl (QO.neq (by rfl) (by rfl)) ?_
  refine RS.nil ?_
  refine thenC_n ?_
  refine CS.cond (by rfl) (fun hb0 => ?_) (fun hb0 => ?_)
  · have hb0p := bne_iff_ne.1 hb0
    refine CS.seq ?_
    refine CS.region ?_
    refine RS.q rfl (QO.build ty26 pl26 (by rfl)) ?_
    refine RS.q rfl (QO.move) ?_
    first | refine RS.storeB ty26 (by rfl) (by rfl) (by rfl) (by rfl) (by rfl) (by repeat (first | exact Upd.head | apply Upd.tail)) (by rfl) ?_ | refine RS.storeP ty26 (by rfl) (by rfl) (by rfl) (by rfl) (by rfl) (by repeat (first | exact Upd.head | apply Upd.tail)) (by rfl) ?_
    refine RS.q rfl (QO.assign) ?_
    refine RS.nil ?_
    refine thenC_n ?_
    refine CS.ret ?_
    refine thenC_r ?_
    refine retQ.mk (H' := []) (.inr rfl) (RVs.cellA ty26 (by rfl) (by repeat (first | exact List.Mem.head _ | refine List.Mem.tail _ ?_)) (by rfl) (RVs.tmp (by rfl) RVs.nil)) (List.nil_sublist _) ?_
    exact FrR.mkE rfl hb0p
  · have hb0p := of_bne_false hb0
    refine CS.skip ?_
    refine thenC_n ?_
    refine CS.seq ?_
    refine CS.region ?_
    have hr := regErr_ok (of_bne_false hb0)
    have hN : (((4 * wi * he).toNat : Nat) : Int) = 4 * wi * he := by omega
    first | (refine RS.q rfl (QO.loadB ty23 (by rfl) (by repeat (first | exact List.Mem.head _ | refine List.Mem.tail _ ?_)) (by rfl)) ?_) | (refine RS.q rfl (QO.loadA ty23 (by rfl) (by repeat (first | exact List.Mem.head _ | refine List.Mem.tail _ ?_)) (by rfl) (by rfl)) ?_) | (refine RS.q rfl (QO.loadOA ty23 (by rfl) (by assumption) (by rfl)) ?_)
    refine RS.q rfl (QO.makeFunc) ?_
    refine RS.call rfl (by rfl) ok118 (by rfl) (fun w ho => each x y wi he (4 * wi * he).toNat 192 _ (fun i => q (i % 4)) _ hN (by omega) (by omega) (by omega) (by kernel_rfl) (fun wd Hd hd i hi => fill1 i g3 q wd (fun j v hj => hd.old (ho.cellAt (by repeat (first | exact List.Mem.head _ | refine List.Mem.tail _ ?_)) hj)))) ?_
    rintro _ _ ⟨ge, rfl, rfl⟩
    first | refine RS.storeB ty26 (by rfl) (by rfl) (by rfl) (by rfl) (by rfl) (by repeat (first | exact Upd.head | apply Upd.tail)) (by rfl) ?_ | refine RS.storeP ty26 (by rfl) (by rfl) (by rfl) (by rfl) (by rfl) (by repeat (first | exact Upd.head | apply Upd.tail)) (by rfl) ?_
    refine RS.q rfl (QO.assign) ?_
    refine RS.nil ?_
    refine thenC_n ?_
    refine CS.ret ?_
    refine retQ.mk (H' := [⟨ge, 33, (fillV q (4 * wi * he).toNat).map flt⟩]) (.inr rfl) (RVs.cellA ty26 (by rfl) (by repeat (first | exact List.Mem.head _ | refine List.Mem.tail _ ?_)) (by rfl) (RVs.tmp (by rfl) RVs.nil)) (by repeat (first | exact List.Sublist.refl _ | exact List.nil_sublist _ | refine List.Sublist.cons_cons _ ?_ | refine List.Sublist.cons _ ?_ | exact Sbp.refl | exact Sbp.nil | refine Sbp.cons (by repeat (first | exact Rem.head | apply Rem.tail)) ?_ | exact Sbp.app | refine Sbp.skip ?_)) ?_
    exact FrR.mk0 (fillV_len _ _) (by unfold maxLen; omega) (of_bne_false hb0)

def putF (xs : List Nat) (q : Nat → Nat) (o : Nat) (i : Nat) : Nat := if o ≤ i ∧ i < o + 4 then q (i - o) else xs.getD i 0
theorem put_T {xs : List Nat} {q : Nat → Nat} {o i : Nat} (h : o ≤ i) (h2 : i < o + 4) : q (i - o) = putF xs q o i := (if_pos ⟨h, h2⟩).symm
theorem put_F {xs : List Nat} {q : Nat → Nat} {o i : Nat} (h : ¬ (o ≤ i ∧ i < o + 4)) : xs.getD i 0 = putF xs q o i := (if_neg h).symm
def putV (xs : List Nat) (q : Nat → Nat) (X Y : Int) (a b : Nat) (x y : Int) : List Nat := overV (xs.map cl) (fillV q 4) X Y a b x y 1 1
theorem put_at {q : Nat → Nat} {x y : Int} (c : Nat) (hc : c < 4) : pixF (fillV q 4) x y 1 1 x y c = cl (q c) := by
  have h := pixF_at (xs := fillV q 4) (x := x) (y := y) (w := 1) (h := 1) (X := x) (Y := y) (i := 0) (j := 0) (by unfold near; omega) (by unfold near; omega) c
  rw [h]
  match c, hc with
  | 0, _ => rfl
  | 1, _ => rfl
  | 2, _ => rfl
  | 3, _ => rfl
theorem put_over {xs : List Nat} {q : Nat → Nat} {X Y : Int} {a b i j o : Nat} (hl : xs.length = 4 * (a * b)) (hi : i < a) (hj : j < b) (ho : o = 4 * (a * j + i)) :
    ((List.range (4 * (a * b))).map fun k => cl (putF xs q o k)) = putV xs q X Y a b (X + i) (Y + j) := by
  unfold putV overV mixL
  apply List.map_congr_left
  intro k hk
  have hk := List.mem_range.1 hk
  have ha : 0 < a := by omega
  have hp := pos_of (i := k) ha
  have h1 : k / 4 / a < b := by rw [Nat.div_lt_iff_lt_mul ha, Nat.mul_comm]; omega
  have hn := place_of (a := a) (c := i) (r := j) (x := 0) hi (by omega)
  by_cases e : k / 4 / a = j ∧ k / 4 % a = i
  · have hB : atB (X + ((k / 4 % a : Nat) : Int)) (Y + ((k / 4 / a : Nat) : Int)) (X + i) (Y + j) (1 : Nat) (1 : Nat) = true := by
      rw [e.1, e.2]; unfold atB; apply decide_eq_true; omega
    refine Eq.trans ?_ (if_pos hB).symm
    have e3 : k = o + k % 4 := by rw [ho, ← e.1, ← e.2]; exact hp.1
    rw [← put_T (xs := xs) (by omega : o ≤ k) (by omega)]
    unfold madeF
    rw [e.1, e.2, put_at _ (Nat.mod_lt _ (by omega)), cl_cl, show k - o = k % 4 by omega]
  · have hB : atB (X + ((k / 4 % a : Nat) : Int)) (Y + ((k / 4 / a : Nat) : Int)) (X + i) (Y + j) (1 : Nat) (1 : Nat) = false := by
      unfold atB; apply decide_eq_false
      generalize k / 4 / a = r at *
      generalize k / 4 % a = s at *
      omega
    rw [if_neg (show ¬ atB _ _ _ _ _ _ = true by rw [hB]; decide), ← put_F (fun hh => e ?_)]
    · simp only [List.getD, List.getElem?_map]
      rw [List.getElem?_eq_getElem (show k < xs.length by omega)]
      rfl
    · have e3 : k = 4 * (a * j + i) + (k - o) := by omega
      have h5 := place_of (a := a) (c := i) (r := j) (x := k - o) hi (by omega)
      rw [← e3] at h5
      exact ⟨h5.1, h5.2.1⟩
theorem putV_len (xs : List Nat) (q : Nat → Nat) (X Y : Int) (a b : Nat) (x y : Int) : (putV xs q X Y a b x y).length = 4 * (a * b) := overV_len ..

set_option maxRecDepth 100000 in
theorem put1 (k g1 g2 g3 o : Nat) (q : Nat → Nat) (X Y : Int) (a b : Nat) (A : Option Addr) (n c : Nat) (xs : List Nat) (W : World) (hg1 : W.cell? ⟨g1, 0, none⟩ = some (iv (o : Int))) (hg2 : ∀ j v, [flt (q 0), flt (q 1), flt (q 2), flt (q 3)][j]? = some v → W.cell? ((⟨g2, 0, none⟩ : Addr).add j) = some v) (hg3 : ∀ j v, [iv X, iv Y, iv (a : Int), iv (b : Int), .slice A n c][j]? = some v → W.cell? ((⟨g3, 0, none⟩ : Addr).add j) = some v) (hn : xs.length = n) (hA : FS W A xs) (hk : k < n) (hob : o ≤ 1000000000) : Fn_ Try.prog 194 #[iv (k : Int), .pointer (some ⟨g1, 0, none⟩), .pointer (some ⟨g2, 0, none⟩), .pointer (some ⟨g3, 0, none⟩)] W (fun v H => v = flt (putF xs q o k) ∧ H = []) := by
  obtain ⟨bA, oA, rfl, hcA⟩ := hA.at_ k (by omega)
  refine Fn_.intro Try.func194 rfl rfl (by rfl) ?_
  refine CS.seq ?_
  refine CS.region ?_
  refine RS.q rfl (QO.assign) ?_
  refine RS.nil ?_
  refine thenC_n ?_
  refine CS.seq ?_
  refine CS.seq ?_
  refine CS.region ?_
  refine RS.q rfl (QO.move) ?_
  refine RS.q rfl (QO.loadO ty3 (by rfl) hg1) ?_
  refine RS.q rfl (QO.geq (by rfl) (by rfl)) ?_
  refine RS.q rfl (QO.move) ?_
  refine RS.split (dj := 9) (by rfl) (fun hb0 => ?_) (fun hb0 => ?_)
  · have hb0p := of_decide_eq_true hb0
    refine RS.on (dj := 9) rfl (congrArg Value.bool hb0) ?_
    refine RS.q rfl (QO.move) ?_
    refine RS.on (dj := 9) rfl (congrArg Value.bool hb0) ?_
    refine RS.q rfl (QO.loadO ty3 (by rfl) hg1) ?_
    refine RS.on (dj := 9) rfl (congrArg Value.bool hb0) ?_
    first | (refine RS.q rfl (QO.add (by rfl) (by rfl) (by omega) (by omega)) ?_) | (refine RS.q rfl (QO.ibin (by rfl) (by rfl) trivial) ?_)
    refine RS.on (dj := 9) rfl (congrArg Value.bool hb0) ?_
    refine RS.q rfl (QO.lss (by rfl) (by rfl)) ?_
    refine RS.q rfl (QO.pickT (by rfl) hb0 (by rfl)) ?_
    refine RS.nil ?_
    refine thenC_n ?_
    refine CS.cond (by rfl) (fun hb1 => ?_) (fun hb1 => ?_)
    · have hb1p := of_decide_eq_true hb1
      refine CS.seq ?_
      refine CS.region ?_
      refine RS.q rfl (QO.move) ?_
      refine RS.q rfl (QO.loadO ty3 (by rfl) hg1) ?_
      first | (refine RS.qv rfl (QO.sub (by rfl) (by rfl) (by omega) (by omega)) (congrArg iv (show (k : Int) - (o : Int) = ((k - o : Nat) : Int) by omega)) ?_) | (refine RS.qv rfl (QO.ibin (by rfl) (by rfl) trivial) (congrArg iv (show (k : Int) - (o : Int) = ((k - o : Nat) : Int) by omega)) ?_)
      first | (refine RS.q rfl (QO.idxArr0 Try.underlying35 ty33 (by rfl) (by rfl) (by rfl) (by omega)) ?_) | (refine RS.q rfl (QO.idxArrn Try.underlying35 ty33 (by rfl) (by rfl) (by rfl) (by omega)) ?_) | (refine RS.q rfl (QO.idxArr Try.underlying35 ty33 (by rfl) (by rfl) (by omega) (by omega)) ?_)
      refine RS.q rfl (QO.loadO ty33 (by rfl) (by have := hg2 (k - o) _ (idx4 (fun c => flt (q c)) (k - o) (by omega)); rwa [addr_add, Nat.zero_add] at this)) ?_
      refine RS.q rfl (QO.assign) ?_
      refine RS.nil ?_
      refine thenC_n ?_
      refine CS.ret ?_
      refine thenC_r ?_
      refine retQ.mk (H' := []) (.inr rfl) (RVs.tmp (by rfl) RVs.nil) (List.nil_sublist _) ?_
      exact ⟨congrArg flt (put_T (by omega) (by omega)), rfl⟩
    · have hb1p := of_decide_eq_false hb1
      refine CS.skip ?_
      refine thenC_n ?_
      refine CS.seq ?_
      refine CS.region ?_
      refine RS.q rfl (QO.fieldAddr fo26_1 (by rfl)) ?_
      refine RS.q rfl (QO.loadO ty24 (by rfl) (by have := hg3 4 _ rfl; rwa [addr_add] at this)) ?_
      refine RS.q rfl (QO.move) ?_
      first | (refine RS.q rfl (QO.idx0 Try.underlying24 ty33 (by rfl) (by rfl) (by rfl) (by omega)) ?_) | (refine RS.q rfl (QO.idxn Try.underlying24 ty33 (by rfl) (by rfl) (by rfl) (by omega)) ?_) | (refine RS.q rfl (QO.idx1 Try.underlying24 ty33 (by rfl) (by rfl) (by omega) (by omega)) ?_)
      refine RS.q rfl (QO.loadO ty33 (by rfl) hcA) ?_
      refine RS.q rfl (QO.assign) ?_
      refine RS.nil ?_
      refine thenC_n ?_
      refine CS.ret ?_
      refine retQ.mk (H' := []) (.inr rfl) (RVs.tmp (by rfl) RVs.nil) (List.nil_sublist _) ?_
      exact ⟨congrArg flt (put_F (by omega)), rfl⟩
  · have hb0p := of_decide_eq_false hb0
    refine RS.off (dj := 9) rfl (.inl (congrArg Value.bool hb0)) (fun _ => rfl) rfl ?_
    refine RS.off (dj := 9) rfl (.inl (congrArg Value.bool hb0)) (fun _ => rfl) rfl ?_
    refine RS.off (dj := 9) rfl (.inl (congrArg Value.bool hb0)) (fun _ => rfl) rfl ?_
    refine RS.off (dj := 9) rfl (.inl (congrArg Value.bool hb0)) (fun _ => rfl) rfl ?_
    refine RS.q rfl (QO.pickF (by rfl) hb0 (by rfl)) ?_
    refine RS.nil ?_
    refine thenC_n ?_
    refine CS.condF (by rfl) rfl ?_
    refine CS.skip ?_
    refine thenC_n ?_
    refine CS.seq ?_
    refine CS.region ?_
    refine RS.q rfl (QO.fieldAddr fo26_1 (by rfl)) ?_
    refine RS.q rfl (QO.loadO ty24 (by rfl) (by have := hg3 4 _ rfl; rwa [addr_add] at this)) ?_
    refine RS.q rfl (QO.move) ?_
    first | (refine RS.q rfl (QO.idx0 Try.underlying24 ty33 (by rfl) (by rfl) (by rfl) (by omega)) ?_) | (refine RS.q rfl (QO.idxn Try.underlying24 ty33 (by rfl) (by rfl) (by rfl) (by omega)) ?_) | (refine RS.q rfl (QO.idx1 Try.underlying24 ty33 (by rfl) (by rfl) (by omega) (by omega)) ?_)
    refine RS.q rfl (QO.loadO ty33 (by rfl) hcA) ?_
    refine RS.q rfl (QO.assign) ?_
    refine RS.nil ?_
    refine thenC_n ?_
    refine CS.ret ?_
    refine retQ.mk (H' := []) (.inr rfl) (RVs.tmp (by rfl) RVs.nil) (List.nil_sublist _) ?_
    exact ⟨congrArg flt (put_F (by omega)), rfl⟩

set_option maxRecDepth 100000 in
theorem put_ (x y : Int) (q : Nat → Nat) (X Y : Int) (a b : Nat) (A : Option Addr) (n c : Nat) (xs : List Nat) (W : World) (hn : xs.length = n) (hA : FS W A xs) (hN : n = 4 * (a * b)) (hc : n ≤ c) (hcm : c ≤ maxLen) (hX : -1048576 ≤ X ∧ X ≤ 1048576) (hY : -1048576 ≤ Y ∧ Y ≤ 1048576) (ha : 1 ≤ a ∧ a ≤ 256) (hb : 1 ≤ b ∧ b ≤ 256) (hfr : frErr X Y a b n = 0) : Fn_ Try.prog 98 #[.agg #[iv X, iv Y, iv (a : Int), iv (b : Int), .slice A n c], iv x, iv y, pxv q] W (fun v H => FrR (atE x y X Y a b) X Y a b (putV xs q X Y a b x y) v H) := by
  subst hn
  have hab1 := Nat.mul_le_mul ha.1 hb.1
  have hab3 := Nat.mul_le_mul ha.2 hb.2
  have hcast : ((a * b : Nat) : Int) = (a : Int) * (b : Int) := Int.natCast_mul ..
  have h41 : 4 * (a : Int) * (b : Int) = 4 * ((a : Int) * (b : Int)) := Int.mul_assoc ..
  refine Fn_.intro Try.func98 rfl rfl (by rfl) ?_
  refine CS.seq ?_
  refine CS.region ?_
  refine RS.box rfl (by rfl) (by rfl) ?_
  intro g4
  refine RS.box rfl (by rfl) (by rfl) ?_
  intro g7
  refine RS.alloc rfl ty26 ?_
  intro g8
  refine RS.q rfl (QO.assign) ?_
  refine RS.nil ?_
  refine thenC_n ?_
  refine CS.seq ?_
  refine CS.seq ?_
  refine CS.region ?_
  first | (refine RS.q rfl (QO.loadB ty26 (by rfl) (by repeat (first | exact List.Mem.head _ | refine List.Mem.tail _ ?_)) (by rfl)) ?_) | (refine RS.q rfl (QO.loadA ty26 (by rfl) (by repeat (first | exact List.Mem.head _ | refine List.Mem.tail _ ?_)) (by rfl) (by rfl)) ?_) | (refine RS.q rfl (QO.loadOA ty26 (by rfl) (by assumption) (by rfl)) ?_)
  refine RS.call rfl (by rfl) ok116 (by rfl) (fun w ho => check _ _ _ _ _ _ _ _) ?_
  rintro _ _ ⟨rfl, rfl⟩
  refine RS.q rfl (QO.assign) ?_
  refine RS.nil ?_
  refine thenC_n ?_
  refine CS.seq ?_
  refine CS.region ?_
  refine RS.q rfl (QO.move) ?_
  refine RS.qv rfl (QO.neq (by rfl) (by rfl)) (congrArg Value.bool (show (frErr X Y (a : Int) (b : Int) xs.length != 0) = false from by rw [hfr]; rfl)) ?_
  refine RS.nil ?_
  refine thenC_n ?_
  refine CS.condF (by rfl) rfl ?_
  refine CS.skip ?_
  refine thenC_n ?_
  refine CS.seq ?_
  refine CS.seq ?_
  refine CS.region ?_
  refine RS.q rfl (QO.fieldAddr fo26_0 (by rfl)) ?_
  first | (refine RS.q rfl (QO.loadB ty23 (by rfl) (by repeat (first | exact List.Mem.head _ | refine List.Mem.tail _ ?_)) (by rfl)) ?_) | (refine RS.q rfl (QO.loadA ty23 (by rfl) (by repeat (first | exact List.Mem.head _ | refine List.Mem.tail _ ?_)) (by rfl) (by rfl)) ?_) | (refine RS.q rfl (QO.loadOA ty23 (by rfl) (by assumption) (by rfl)) ?_)
  refine RS.q rfl (QO.move) ?_
  refine RS.q rfl (QO.move) ?_
  refine RS.call rfl (by rfl) ok163 (by rfl) (fun w ho => has x y X Y a b _ hX hY ha.2 hb.2) ?_
  rintro _ _ ⟨rfl, rfl⟩
  refine RS.q rfl (QO.not (by rfl)) ?_
  refine RS.nil ?_
  refine thenC_n ?_
  refine CS.cond (by rfl) (fun hb0 => ?_) (fun hb0 => ?_)
  · have hb0p := Eq.mp (Bool.not_eq_true' _) hb0
    refine CS.seq ?_
    refine CS.region ?_
    refine RS.q rfl (QO.build ty26 pl26 (by rfl)) ?_
    first | refine RS.storeB ty26 (by rfl) (by rfl) (by rfl) (by rfl) (by rfl) (by repeat (first | exact Upd.head | apply Upd.tail)) (by rfl) ?_ | refine RS.storeP ty26 (by rfl) (by rfl) (by rfl) (by rfl) (by rfl) (by repeat (first | exact Upd.head | apply Upd.tail)) (by rfl) ?_
    refine RS.q rfl (QO.assign) ?_
    refine RS.nil ?_
    refine thenC_n ?_
    refine CS.ret ?_
    refine thenC_r ?_
    refine retQ.mk (H' := []) (.inr rfl) (RVs.cellA ty26 (by rfl) (by repeat (first | exact List.Mem.head _ | refine List.Mem.tail _ ?_)) (by rfl) (RVs.tmp (by rfl) RVs.nil)) (List.nil_sublist _) ?_
    exact FrR.mkE (if_neg (by rw [hb0p]; decide)) (by decide)
  · have hb0p := Eq.mp (Bool.not_eq_false' _) hb0
    refine CS.skip ?_
    refine thenC_n ?_
    refine CS.seq ?_
    refine CS.region ?_
    obtain ⟨i, j, rfl, rfl, hi, hj⟩ := at_place hb0p
    obtain ⟨o, ho_⟩ : ∃ o, o = 4 * (a * j + i) := ⟨_, rfl⟩
    have hbd := at_bd hi hj
    have hab2 := Nat.mul_le_mul ha.2 hb.2
    refine RS.q rfl (QO.fieldAddr fo26_0 (by rfl)) ?_
    first | (refine RS.q rfl (QO.loadB ty23 (by rfl) (by repeat (first | exact List.Mem.head _ | refine List.Mem.tail _ ?_)) (by rfl)) ?_) | (refine RS.q rfl (QO.loadA ty23 (by rfl) (by repeat (first | exact List.Mem.head _ | refine List.Mem.tail _ ?_)) (by rfl) (by rfl)) ?_) | (refine RS.q rfl (QO.loadOA ty23 (by rfl) (by assumption) (by rfl)) ?_)
    refine RS.q rfl (QO.move) ?_
    refine RS.q rfl (QO.move) ?_
    refine RS.call rfl (by rfl) ok159 (by rfl) (fun w ho => offset_ X Y (X + i) (Y + j) b a i j o _ rfl rfl ho_ hX hY (by omega) (by omega) (by omega)) ?_
    rintro _ _ ⟨rfl, rfl⟩
    refine RS.alloc rfl ty3 ?_
    intro g11
    refine RS.store1 ty3 rfl (by rfl) (by rfl) (by rfl) (by repeat (first | exact Upd.head | apply Upd.tail)) (by first | (simp; done) | (simp; omega) | omega) ?_
    refine RS.nil ?_
    refine thenC_n ?_
    refine CS.seq ?_
    refine CS.region ?_
    refine RS.q rfl (QO.fieldAddr fo26_0 (by rfl)) ?_
    first | (refine RS.q rfl (QO.loadB ty23 (by rfl) (by repeat (first | exact List.Mem.head _ | refine List.Mem.tail _ ?_)) (by rfl)) ?_) | (refine RS.q rfl (QO.loadA ty23 (by rfl) (by repeat (first | exact List.Mem.head _ | refine List.Mem.tail _ ?_)) (by rfl) (by rfl)) ?_) | (refine RS.q rfl (QO.loadOA ty23 (by rfl) (by assumption) (by rfl)) ?_)
    refine RS.q rfl (QO.makeFunc) ?_
    refine RS.call rfl (by rfl) ok118 (by rfl) (fun w ho => each X Y a b xs.length 194 _ (putF xs q o) _ (by omega) (by omega) (by omega) (by omega) (by kernel_rfl) (fun wd Hd hd k hk => put1 k g11 g7 g4 o q X Y a b A _ c xs wd (hd.old (ho.cell0 (by repeat (first | exact List.Mem.head _ | refine List.Mem.tail _ ?_)) rfl)) (fun j v hj => hd.old (ho.cellAt (by repeat (first | exact List.Mem.head _ | refine List.Mem.tail _ ?_)) hj)) (fun j v hj => hd.old (ho.cellAt (by repeat (first | exact List.Mem.head _ | refine List.Mem.tail _ ?_)) hj)) rfl ((hA.own ho).own hd) hk (by omega))) ?_
    rintro _ _ ⟨ge, rfl, rfl⟩
    first | refine RS.storeB ty26 (by rfl) (by rfl) (by rfl) (by rfl) (by rfl) (by repeat (first | exact Upd.head | apply Upd.tail)) (by rfl) ?_ | refine RS.storeP ty26 (by rfl) (by rfl) (by rfl) (by rfl) (by rfl) (by repeat (first | exact Upd.head | apply Upd.tail)) (by rfl) ?_
    refine RS.q rfl (QO.assign) ?_
    refine RS.nil ?_
    refine thenC_n ?_
    refine CS.ret ?_
    refine retQ.mk (H' := [⟨ge, 33, (putV xs q X Y a b (X + i) (Y + j)).map flt⟩]) (.inr rfl) (RVs.cellA ty26 (by rfl) (by repeat (first | exact List.Mem.head _ | refine List.Mem.tail _ ?_)) (by rfl) (RVs.tmp (by rfl) RVs.nil)) (by rw [← put_over hN hi hj ho_, ← hN]; exact (by repeat (first | exact List.Sublist.refl _ | exact List.nil_sublist _ | refine List.Sublist.cons_cons _ ?_ | refine List.Sublist.cons _ ?_ | exact Sbp.refl | exact Sbp.nil | refine Sbp.cons (by repeat (first | exact Rem.head | apply Rem.tail)) ?_ | exact Sbp.app | refine Sbp.skip ?_))) ?_
    exact FrR.mk0 ((putV_len ..).trans hN.symm) (by unfold maxLen; omega) (if_pos hb0p)

set_option maxRecDepth 100000 in
theorem clean1 (k g3 : Nat) (X Y : Int) (a b : Nat) (A : Option Addr) (n c : Nat) (xs : List Nat) (W : World) (hg3 : ∀ j v, [iv X, iv Y, iv (a : Int), iv (b : Int), .slice A n c][j]? = some v → W.cell? ((⟨g3, 0, none⟩ : Addr).add j) = some v) (hn : xs.length = n) (hA : FS W A xs) (hk : k < n) : Fn_ Try.prog 223 #[iv (k : Int), .pointer (some ⟨g3, 0, none⟩)] W (fun v H => v = flt (xs.getD k 0) ∧ H = []) := by
  obtain ⟨bA, oA, rfl, hcA⟩ := hA.at_ k (by omega)
  refine Fn_.intro Try.func223 rfl rfl (by rfl) ?_
  refine CS.seq ?_
  refine CS.region ?_
  refine RS.q rfl (QO.assign) ?_
  refine RS.nil ?_
  refine thenC_n ?_
  refine CS.seq ?_
  refine CS.region ?_
  refine RS.q rfl (QO.fieldAddr fo26_1 (by rfl)) ?_
  refine RS.q rfl (QO.loadO ty24 (by rfl) (by have := hg3 4 _ rfl; rwa [addr_add] at this)) ?_
  refine RS.q rfl (QO.move) ?_
  first | (refine RS.q rfl (QO.idx0 Try.underlying24 ty33 (by rfl) (by rfl) (by rfl) (by omega)) ?_) | (refine RS.q rfl (QO.idxn Try.underlying24 ty33 (by rfl) (by rfl) (by rfl) (by omega)) ?_) | (refine RS.q rfl (QO.idx1 Try.underlying24 ty33 (by rfl) (by rfl) (by omega) (by omega)) ?_)
  refine RS.q rfl (QO.loadO ty33 (by rfl) hcA) ?_
  refine RS.q rfl (QO.assign) ?_
  refine RS.nil ?_
  refine thenC_n ?_
  refine CS.ret ?_
  refine retQ.mk (H' := []) (.inr rfl) (RVs.tmp (by rfl) RVs.nil) (List.nil_sublist _) ?_
  exact ⟨rfl, rfl⟩

theorem map_cl_eq {xs : List Nat} {n : Nat} (h : xs.length = n) : ((List.range n).map fun i => cl (xs.getD i 0)) = xs.map cl := by
  subst h
  apply List.ext_getElem
  · simp
  · intro i h1 h2
    simp only [List.getElem_map, List.getElem_range]
    rw [getD_at]

set_option maxRecDepth 100000 in
theorem clean_ (X Y : Int) (a b : Nat) (A : Option Addr) (n c : Nat) (xs : List Nat) (W : World) (hn : xs.length = n) (hA : FS W A xs) (hN : n = 4 * (a * b)) (hc : n ≤ c) (hcm : c ≤ maxLen) (hX : -1048576 ≤ X ∧ X ≤ 1048576) (hY : -1048576 ≤ Y ∧ Y ≤ 1048576) (ha : 1 ≤ a ∧ a ≤ 256) (hb : 1 ≤ b ∧ b ≤ 256) (hfr : frErr X Y a b n = 0) : Fn_ Try.prog 198 #[.agg #[iv X, iv Y, iv (a : Int), iv (b : Int), .slice A n c]] W (fun v H => ∃ g, v = .tuple #[.agg #[iv X, iv Y, iv (a : Int), iv (b : Int), .slice (some ⟨g, 0, none⟩) n n], iv 0] ∧ H = [⟨g, 33, (xs.map cl).map flt⟩]) := by
  subst hn
  have hab1 := Nat.mul_le_mul ha.1 hb.1
  have hab2 := Nat.mul_le_mul ha.2 hb.2
  have hcast : ((a * b : Nat) : Int) = (a : Int) * (b : Int) := Int.natCast_mul ..
  have h41 : 4 * (a : Int) * (b : Int) = 4 * ((a : Int) * (b : Int)) := Int.mul_assoc ..
  have hcm2 := hcm
  unfold maxLen at hcm2
  refine Fn_.intro Try.func198 rfl rfl (by rfl) ?_
  refine CS.seq ?_
  refine CS.region ?_
  refine RS.box rfl (by rfl) (by rfl) ?_
  intro g1
  refine RS.alloc rfl ty26 ?_
  intro g2
  refine RS.q rfl (QO.assign) ?_
  refine RS.nil ?_
  refine thenC_n ?_
  refine CS.seq ?_
  refine CS.seq ?_
  refine CS.region ?_
  first | (refine RS.q rfl (QO.loadB ty26 (by rfl) (by repeat (first | exact List.Mem.head _ | refine List.Mem.tail _ ?_)) (by rfl)) ?_) | (refine RS.q rfl (QO.loadA ty26 (by rfl) (by repeat (first | exact List.Mem.head _ | refine List.Mem.tail _ ?_)) (by rfl) (by rfl)) ?_) | (refine RS.q rfl (QO.loadOA ty26 (by rfl) (by assumption) (by rfl)) ?_)
  refine RS.call rfl (by rfl) ok116 (by rfl) (fun w ho => check _ _ _ _ _ _ _ _) ?_
  rintro _ _ ⟨rfl, rfl⟩
  refine RS.q rfl (QO.assign) ?_
  refine RS.nil ?_
  refine thenC_n ?_
  refine CS.seq ?_
  refine CS.region ?_
  refine RS.q rfl (QO.move) ?_
  refine RS.qv rfl (QO.neq (by rfl) (by rfl)) (congrArg Value.bool (show (frErr X Y (a : Int) (b : Int) xs.length != 0) = false from by rw [hfr]; rfl)) ?_
  refine RS.nil ?_
  refine thenC_n ?_
  refine CS.condF (by rfl) rfl ?_
  refine CS.skip ?_
  refine thenC_n ?_
  refine CS.seq ?_
  refine CS.region ?_
  refine RS.q rfl (QO.fieldAddr fo26_0 (by rfl)) ?_
  first | (refine RS.q rfl (QO.loadB ty23 (by rfl) (by repeat (first | exact List.Mem.head _ | refine List.Mem.tail _ ?_)) (by rfl)) ?_) | (refine RS.q rfl (QO.loadA ty23 (by rfl) (by repeat (first | exact List.Mem.head _ | refine List.Mem.tail _ ?_)) (by rfl) (by rfl)) ?_) | (refine RS.q rfl (QO.loadOA ty23 (by rfl) (by assumption) (by rfl)) ?_)
  refine RS.q rfl (QO.makeFunc) ?_
  refine RS.call rfl (by rfl) ok118 (by rfl) (fun w ho => each X Y a b xs.length 223 _ (fun i => xs.getD i 0) _ (by omega) (by omega) (by omega) (by omega) (by kernel_rfl) (fun wd Hd hd k hk => clean1 k g1 X Y a b A _ c xs wd (fun j v hj => hd.old (ho.cellAt (by repeat (first | exact List.Mem.head _ | refine List.Mem.tail _ ?_)) hj)) rfl ((hA.own ho).own hd) hk)) ?_
  rintro _ _ ⟨ge, rfl, rfl⟩
  first | refine RS.storeB ty26 (by rfl) (by rfl) (by rfl) (by rfl) (by rfl) (by repeat (first | exact Upd.head | apply Upd.tail)) (by rfl) ?_ | refine RS.storeP ty26 (by rfl) (by rfl) (by rfl) (by rfl) (by rfl) (by repeat (first | exact Upd.head | apply Upd.tail)) (by rfl) ?_
  refine RS.q rfl (QO.assign) ?_
  refine RS.nil ?_
  refine thenC_n ?_
  refine CS.ret ?_
  refine retQ.mk (H' := [⟨ge, 33, (xs.map cl).map flt⟩]) (.inr rfl) (RVs.cellA ty26 (by rfl) (by repeat (first | exact List.Mem.head _ | refine List.Mem.tail _ ?_)) (by rfl) (RVs.tmp (by rfl) RVs.nil)) (by rw [← map_cl_eq rfl]; exact (by repeat (first | exact List.Sublist.refl _ | exact List.nil_sublist _ | refine List.Sublist.cons_cons _ ?_ | refine List.Sublist.cons _ ?_ | exact Sbp.refl | exact Sbp.nil | refine Sbp.cons (by repeat (first | exact Rem.head | apply Rem.tail)) ?_ | exact Sbp.app | refine Sbp.skip ?_))) ?_
  exact ⟨ge, rfl, rfl⟩

theorem commonW (ax ay aw ah bx bz bw bh rx ry rw_ rh : Int) (bb : Bool) (W : World) (hT : cmT ax ay aw ah bx bz bw bh = (rx, ry, rw_, rh)) (hB : cmB ax ay aw ah bx bz bw bh = bb) (q0 : -1000000000 ≤ ax ∧ ax ≤ 1000000000) (q1 : -1000000000 ≤ ay ∧ ay ≤ 1000000000) (q2 : -1000000000 ≤ aw ∧ aw ≤ 1000000000) (q3 : -1000000000 ≤ ah ∧ ah ≤ 1000000000) (q4 : -1000000000 ≤ bx ∧ bx ≤ 1000000000) (q5 : -1000000000 ≤ bz ∧ bz ≤ 1000000000) (q6 : -1000000000 ≤ bw ∧ bw ≤ 1000000000) (q7 : -1000000000 ≤ bh ∧ bh ≤ 1000000000) :
    Fn_ Try.prog 42 #[.agg #[iv ax, iv ay, iv aw, iv ah], .agg #[iv bx, iv bz, iv bw, iv bh]] W (fun v H => v = .tuple #[.agg #[iv rx, iv ry, iv rw_, iv rh], .bool bb] ∧ H = []) := by
  refine (common_ _ _ _ _ _ _ _ _ W q0 q1 q2 q3 q4 q5 q6 q7).mono fun v H h => ?_
  rw [hT, hB] at h
  exact h
theorem rcommonW (ax ay aw ah bx bz bw bh rx ry rw_ rh : Int) (bb : Bool) (W : World) (hT : cmT ax ay aw ah bx bz bw bh = (rx, ry, rw_, rh)) (hB : cmB ax ay aw ah bx bz bw bh = bb) (q0 : -1000000000 ≤ ax ∧ ax ≤ 1000000000) (q1 : -1000000000 ≤ ay ∧ ay ≤ 1000000000) (q2 : -1000000000 ≤ aw ∧ aw ≤ 1000000000) (q3 : -1000000000 ≤ ah ∧ ah ≤ 1000000000) (q4 : -1000000000 ≤ bx ∧ bx ≤ 1000000000) (q5 : -1000000000 ≤ bz ∧ bz ≤ 1000000000) (q6 : -1000000000 ≤ bw ∧ bw ≤ 1000000000) (q7 : -1000000000 ≤ bh ∧ bh ≤ 1000000000) :
    Fn_ Try.prog 43 #[.agg #[iv ax, iv ay, iv aw, iv ah], .agg #[iv bx, iv bz, iv bw, iv bh]] W (fun v H => v = .tuple #[.agg #[iv rx, iv ry, iv rw_, iv rh], .bool bb] ∧ H = []) := by
  refine (rcommon _ _ _ _ _ _ _ _ W q0 q1 q2 q3 q4 q5 q6 q7).mono fun v H h => ?_
  rw [hT, hB] at h
  exact h
theorem cmT_F {ax ay aw ah bx bz bw bh : Int} (h : cmB ax ay aw ah bx bz bw bh = false) : cmT ax ay aw ah bx bz bw bh = (0, 0, 0, 0) := if_neg (by rw [h]; decide)

set_option maxRecDepth 100000 in
theorem copyInto_F (X Y X2 Y2 : Int) (a b a2 b2 g n c n2 c2 : Nat) (A2 : Option Addr) (ys zs : List Nat) (K : HL) (W : World) (hl : ys.length = 4 * (a * b)) (hn : n = 4 * (a * b)) (hl2 : zs.length = n2) (hA2 : FS W A2 zs) (hn2 : n2 = 4 * (a2 * b2)) (hX : -1048576 ≤ X ∧ X ≤ 1048576) (hY : -1048576 ≤ Y ∧ Y ≤ 1048576) (ha : 1 ≤ a ∧ a ≤ 256) (hb : 1 ≤ b ∧ b ≤ 256) (hX2 : -1048576 ≤ X2 ∧ X2 ≤ 1048576) (hY2 : -1048576 ≤ Y2 ∧ Y2 ≤ 1048576) (ha2 : 1 ≤ a2 ∧ a2 ≤ 256) (hb2 : 1 ≤ b2 ∧ b2 ≤ 256) (hB : cmB X Y a b X2 Y2 a2 b2 = false) : FnH Try.prog 196 #[.agg #[iv X, iv Y, iv (a : Int), iv (b : Int), .slice (some ⟨g, 0, none⟩) n c], .agg #[iv X2, iv Y2, iv (a2 : Int), iv (b2 : Int), .slice A2 n2 c2]] W (⟨g, 33, ys.map flt⟩ :: K) (fun v H => v = .tuple #[] ∧ H = ⟨g, 33, (overV ys zs X Y a b X2 Y2 a2 b2).map flt⟩ :: K) := by
  refine FnH.intro Try.func196 rfl rfl (by rfl) ?_
  refine CS.seq ?_
  refine CS.region ?_
  refine RS.box rfl (by rfl) (by rfl) ?_
  intro g2
  refine RS.box rfl (by rfl) (by rfl) ?_
  intro g3
  refine RS.nil ?_
  refine thenC_n ?_
  refine CS.seq ?_
  refine CS.region ?_
  refine RS.q rfl (QO.fieldAddr fo26_0 (by rfl)) ?_
  first | (refine RS.q rfl (QO.loadB ty23 (by rfl) (by repeat (first | exact List.Mem.head _ | refine List.Mem.tail _ ?_)) (by rfl)) ?_) | (refine RS.q rfl (QO.loadA ty23 (by rfl) (by repeat (first | exact List.Mem.head _ | refine List.Mem.tail _ ?_)) (by rfl) (by rfl)) ?_) | (refine RS.q rfl (QO.loadOA ty23 (by rfl) (by assumption) (by rfl)) ?_)
  refine RS.q rfl (QO.fieldAddr fo26_0 (by rfl)) ?_
  first | (refine RS.q rfl (QO.loadB ty23 (by rfl) (by repeat (first | exact List.Mem.head _ | refine List.Mem.tail _ ?_)) (by rfl)) ?_) | (refine RS.q rfl (QO.loadA ty23 (by rfl) (by repeat (first | exact List.Mem.head _ | refine List.Mem.tail _ ?_)) (by rfl) (by rfl)) ?_) | (refine RS.q rfl (QO.loadOA ty23 (by rfl) (by assumption) (by rfl)) ?_)
  refine RS.call rfl (by rfl) ok42 (by rfl) (fun w ho => commonW X Y a b X2 Y2 a2 b2 0 0 0 0 false _ (cmT_F hB) hB (by omega) (by omega) (by omega) (by omega) (by omega) (by omega) (by omega) (by omega)) ?_
  rintro _ _ ⟨rfl, rfl⟩
  refine RS.q rfl (QO.move) ?_
  refine RS.q rfl (QO.extract (by rfl) (by rfl)) ?_
  refine RS.q rfl (QO.extract (by rfl) (by rfl)) ?_
  refine RS.alloc rfl ty23 ?_
  intro g4
  first | refine RS.storeB ty23 (by rfl) (by rfl) (by rfl) (by rfl) (by rfl) (by repeat (first | exact Upd.head | apply Upd.tail)) (by rfl) ?_ | refine RS.storeP ty23 (by rfl) (by rfl) (by rfl) (by rfl) (by rfl) (by repeat (first | exact Upd.head | apply Upd.tail)) (by rfl) ?_
  refine RS.q rfl (QO.assign) ?_
  refine RS.nil ?_
  refine thenC_n ?_
  refine CS.seq ?_
  refine CS.seq ?_
  refine CS.region ?_
  refine RS.q rfl (QO.move) ?_
  refine RS.q rfl (QO.not (by rfl)) ?_
  refine RS.nil ?_
  refine thenC_n ?_
  refine CS.condT (by rfl) rfl ?_
  refine CS.ret ?_
  refine thenC_r ?_
  refine retQ.mk (H' := ⟨g, 33, (overV ys zs X Y a b X2 Y2 a2 b2).map flt⟩ :: K) (.inr rfl) RVs.nil (by rw [overV_apart hl (apart hB)]; exact (by repeat (first | exact List.Sublist.refl _ | exact List.nil_sublist _ | refine List.Sublist.cons_cons _ ?_ | refine List.Sublist.cons _ ?_ | exact Sbp.refl | exact Sbp.nil | refine Sbp.cons (by repeat (first | exact Rem.head | apply Rem.tail)) ?_ | exact Sbp.app | refine Sbp.skip ?_))) ?_
  exact ⟨rfl, rfl⟩

theorem row_bd {a b r p w : Nat} (hp : p + w ≤ a) (hr : r < b) : a * r + p + w ≤ a * b := by
  have h1 : a * (r + 1) ≤ a * b := Nat.mul_le_mul_left a hr
  rw [Nat.mul_add] at h1
  omega

set_option maxRecDepth 100000 in
theorem copyInto_T (X Y X2 Y2 : Int) (a b a2 b2 g n c n2 c2 : Nat) (A2 : Option Addr) (ys zs : List Nat) (K : HL) (W : World) (hl : ys.length = 4 * (a * b)) (hn : n = 4 * (a * b)) (hl2 : zs.length = n2) (hA2 : FS W A2 zs) (hn2 : n2 = 4 * (a2 * b2)) (hX : -1048576 ≤ X ∧ X ≤ 1048576) (hY : -1048576 ≤ Y ∧ Y ≤ 1048576) (ha : 1 ≤ a ∧ a ≤ 256) (hb : 1 ≤ b ∧ b ≤ 256) (hX2 : -1048576 ≤ X2 ∧ X2 ≤ 1048576) (hY2 : -1048576 ≤ Y2 ∧ Y2 ≤ 1048576) (ha2 : 1 ≤ a2 ∧ a2 ≤ 256) (hb2 : 1 ≤ b2 ∧ b2 ≤ 256) (hB : cmB X Y a b X2 Y2 a2 b2 = true) (p q p2 q2 ww hh : Nat) (hT : cmT X Y a b X2 Y2 a2 b2 = (X + p, Y + q, (ww : Int), (hh : Int))) (mt : Meets X Y a b X2 Y2 a2 b2 p q p2 q2 ww hh) : FnH Try.prog 196 #[.agg #[iv X, iv Y, iv (a : Int), iv (b : Int), .slice (some ⟨g, 0, none⟩) n c], .agg #[iv X2, iv Y2, iv (a2 : Int), iv (b2 : Int), .slice A2 n2 c2]] W (⟨g, 33, ys.map flt⟩ :: K) (fun v H => v = .tuple #[] ∧ H = ⟨g, 33, (overV ys zs X Y a b X2 Y2 a2 b2).map flt⟩ :: K) := by
  subst hl2
  have hab1 := Nat.mul_le_mul ha2.1 hb2.1
  have hab2 := Nat.mul_le_mul ha.2 hb.2
  have hab3 := Nat.mul_le_mul ha2.2 hb2.2
  have mt1 := mt.x
  have mt2 := mt.y
  have mt3 := mt.w1
  have mt4 := mt.h1
  have mt5 := mt.pa
  have mt6 := mt.pa2
  have mt7 := mt.qb
  have mt8 := mt.qb2
  obtain ⟨bA, oA, rfl, hcell⟩ := hA2 (by omega)
  refine FnH.intro Try.func196 rfl rfl (by rfl) ?_
  refine CS.seq ?_
  refine CS.region ?_
  refine RS.box rfl (by rfl) (by rfl) ?_
  intro g2
  refine RS.box rfl (by rfl) (by rfl) ?_
  intro g3
  refine RS.nil ?_
  refine thenC_n ?_
  refine CS.seq ?_
  refine CS.region ?_
  refine RS.q rfl (QO.fieldAddr fo26_0 (by rfl)) ?_
  first | (refine RS.q rfl (QO.loadB ty23 (by rfl) (by repeat (first | exact List.Mem.head _ | refine List.Mem.tail _ ?_)) (by rfl)) ?_) | (refine RS.q rfl (QO.loadA ty23 (by rfl) (by repeat (first | exact List.Mem.head _ | refine List.Mem.tail _ ?_)) (by rfl) (by rfl)) ?_) | (refine RS.q rfl (QO.loadOA ty23 (by rfl) (by assumption) (by rfl)) ?_)
  refine RS.q rfl (QO.fieldAddr fo26_0 (by rfl)) ?_
  first | (refine RS.q rfl (QO.loadB ty23 (by rfl) (by repeat (first | exact List.Mem.head _ | refine List.Mem.tail _ ?_)) (by rfl)) ?_) | (refine RS.q rfl (QO.loadA ty23 (by rfl) (by repeat (first | exact List.Mem.head _ | refine List.Mem.tail _ ?_)) (by rfl) (by rfl)) ?_) | (refine RS.q rfl (QO.loadOA ty23 (by rfl) (by assumption) (by rfl)) ?_)
  refine RS.call rfl (by rfl) ok42 (by rfl) (fun w ho => commonW X Y a b X2 Y2 a2 b2 (X + p) (Y + q) ww hh true _ hT hB (by omega) (by omega) (by omega) (by omega) (by omega) (by omega) (by omega) (by omega)) ?_
  rintro _ _ ⟨rfl, rfl⟩
  refine RS.q rfl (QO.move) ?_
  refine RS.q rfl (QO.extract (by rfl) (by rfl)) ?_
  refine RS.q rfl (QO.extract (by rfl) (by rfl)) ?_
  refine RS.alloc rfl ty23 ?_
  intro g4
  first | refine RS.storeB ty23 (by rfl) (by rfl) (by rfl) (by rfl) (by rfl) (by repeat (first | exact Upd.head | apply Upd.tail)) (by rfl) ?_ | refine RS.storeP ty23 (by rfl) (by rfl) (by rfl) (by rfl) (by rfl) (by repeat (first | exact Upd.head | apply Upd.tail)) (by rfl) ?_
  refine RS.q rfl (QO.assign) ?_
  refine RS.nil ?_
  refine thenC_n ?_
  refine CS.seq ?_
  refine CS.seq ?_
  refine CS.region ?_
  refine RS.q rfl (QO.move) ?_
  refine RS.q rfl (QO.not (by rfl)) ?_
  refine RS.nil ?_
  refine thenC_n ?_
  refine CS.condF (by rfl) rfl ?_
  refine CS.skip ?_
  refine thenC_n ?_
  refine CS.seq ?_
  refine CS.region ?_
  refine RS.q rfl (QO.fieldAddr fo23_1 (by rfl)) ?_
  first | (refine RS.q rfl (QO.load ty3 (by rfl) (by repeat (first | exact List.Mem.head _ | refine List.Mem.tail _ ?_)) (by rfl)) ?_) | (refine RS.q rfl (QO.loadO ty3 (by rfl) (by assumption)) ?_) | (refine RS.q rfl (QO.load ty3 (by rfl) (by repeat (first | exact List.Mem.head _ | refine List.Mem.tail _ ?_)) (by assumption)) ?_)
  refine RS.q rfl (QO.assign) ?_
  refine RS.nil ?_
  refine thenC_n ?_
  refine CS.block ?_
  refine CS.loop (X := Nat) (6 :: 7 :: 8 :: 9 :: 22 :: 23 :: 24 :: 25 :: 26 :: 27 :: 28 :: 29 :: 30 :: 31 :: 32 :: 33 :: 34 :: 35 :: 36 :: 37 :: 38 :: 39 :: 40 :: 41 :: 42 :: 43 :: 44 :: 45 :: 46 :: 47 :: 48 :: 49 :: 50 :: 51 :: 52 :: 53 :: 54 :: 55 :: 56 :: 57 :: 58 :: 59 :: 60 :: 61 :: 62 :: 63 :: []) (fun j => [(6, iv (Y + (q : Int) + (j : Int)))]) (fun j => ⟨g4, 23, [iv (X + (p : Int)), iv (Y + (q : Int)), iv (ww : Int), iv (hh : Int)]⟩ :: ⟨g3, 26, [iv X2, iv Y2, iv (a2 : Int), iv (b2 : Int), .slice (some ⟨bA, oA, none⟩) zs.length c2]⟩ :: ⟨g2, 26, [iv X, iv Y, iv (a : Int), iv (b : Int), .slice (some ⟨g, 0, none⟩) n c]⟩ :: ⟨g, 33, (mixL (4 * (a * b)) (inP a p ww q j 0) (madeF (pixF zs X2 Y2 a2 b2) X Y a) ys).map flt⟩ :: K) (fun j => j ≤ hh) (fun j => hh - j) 0 (Nat.zero_le _) ?_ ?_ ?_
  · exact kn_cons (congrArg iv (by simp)) kn_nil
  · exact (by rw [over_zero hl]; exact (by repeat (first | exact List.Sublist.refl _ | exact List.nil_sublist _ | refine List.Sublist.cons_cons _ ?_ | refine List.Sublist.cons _ ?_ | exact Sbp.refl | exact Sbp.nil | refine Sbp.cons (by repeat (first | exact Rem.head | apply Rem.tail)) ?_ | exact Sbp.app | refine Sbp.skip ?_)))
  · intro j gj4 hz
    refine CS.seq ?_
    refine CS.seq ?_
    refine CS.region ?_
    refine RS.q rfl (QO.move) ?_
    refine RS.q rfl (QO.fieldAddr fo23_1 (by rfl)) ?_
    first | (refine RS.q rfl (QO.load ty3 (by rfl) (by repeat (first | exact List.Mem.head _ | refine List.Mem.tail _ ?_)) (by rfl)) ?_) | (refine RS.q rfl (QO.loadO ty3 (by rfl) (by assumption)) ?_) | (refine RS.q rfl (QO.load ty3 (by rfl) (by repeat (first | exact List.Mem.head _ | refine List.Mem.tail _ ?_)) (by assumption)) ?_)
    refine RS.q rfl (QO.fieldAddr fo23_3 (by rfl)) ?_
    first | (refine RS.q rfl (QO.load ty3 (by rfl) (by repeat (first | exact List.Mem.head _ | refine List.Mem.tail _ ?_)) (by rfl)) ?_) | (refine RS.q rfl (QO.loadO ty3 (by rfl) (by assumption)) ?_) | (refine RS.q rfl (QO.load ty3 (by rfl) (by repeat (first | exact List.Mem.head _ | refine List.Mem.tail _ ?_)) (by assumption)) ?_)
    first | (refine RS.q rfl (QO.add (by rfl) (by rfl) (by omega) (by omega)) ?_) | (refine RS.q rfl (QO.ibin (by rfl) (by rfl) trivial) ?_)
    refine RS.q rfl (QO.lss (by rfl) (by rfl)) ?_
    refine RS.nil ?_
    refine thenC_n ?_
    refine CS.cond (by rfl) (fun hb0 => ?_) (fun hb0 => ?_)
    · have hb0p := of_decide_eq_true hb0
      refine CS.skip ?_
      refine thenC_n ?_
      refine CS.seq ?_
      refine CS.block ?_
      refine CS.seq ?_
      refine CS.draw 14 rfl (by kernel_rfl) (by kernel_rfl) ?_
      have hjh : j < hh := by omega
      obtain ⟨o1, ho1⟩ : ∃ o, o = 4 * (a * (q + j) + p) := ⟨_, rfl⟩
      obtain ⟨o2, ho2⟩ : ∃ o, o = 4 * (a2 * (q2 + j) + p2) := ⟨_, rfl⟩
      have hv1 := row_bd (a := a) (b := b) (r := q + j) (p := p) (w := ww) mt5 (by omega)
      have hv2 := row_bd (a := a2) (b := b2) (r := q2 + j) (p := p2) (w := ww) mt6 (by omega)
      refine RT.take (i := 0) rfl (by kernel_rfl) rfl (QO.fieldAddr fo26_0 (by rfl)) ?_
      first | (refine RT.take (i := 1) rfl (by kernel_rfl) rfl (QO.loadB ty23 (by rfl) (by repeat (first | exact List.Mem.head _ | refine List.Mem.tail _ ?_)) (by rfl)) ?_) | (refine RT.take (i := 1) rfl (by kernel_rfl) rfl (QO.loadA ty23 (by rfl) (by repeat (first | exact List.Mem.head _ | refine List.Mem.tail _ ?_)) (by rfl) (by rfl)) ?_) | (refine RT.take (i := 1) rfl (by kernel_rfl) rfl (QO.loadOA ty23 (by rfl) (by assumption) (by rfl)) ?_)
      refine RT.take (i := 2) rfl (by kernel_rfl) rfl (QO.fieldAddr fo23_0 (by rfl)) ?_
      first | (refine RT.take (i := 3) rfl (by kernel_rfl) rfl (QO.load ty3 (by rfl) (by repeat (first | exact List.Mem.head _ | refine List.Mem.tail _ ?_)) (by rfl)) ?_) | (refine RT.take (i := 3) rfl (by kernel_rfl) rfl (QO.loadO ty3 (by rfl) (by assumption)) ?_) | (refine RT.take (i := 3) rfl (by kernel_rfl) rfl (QO.load ty3 (by rfl) (by repeat (first | exact List.Mem.head _ | refine List.Mem.tail _ ?_)) (by assumption)) ?_)
      refine RT.take (i := 4) rfl (by kernel_rfl) rfl (QO.move) ?_
      refine RT.take (i := 6) rfl (by kernel_rfl) rfl (QO.fieldAddr fo26_0 (by rfl)) ?_
      first | (refine RT.take (i := 7) rfl (by kernel_rfl) rfl (QO.loadB ty23 (by rfl) (by repeat (first | exact List.Mem.head _ | refine List.Mem.tail _ ?_)) (by rfl)) ?_) | (refine RT.take (i := 7) rfl (by kernel_rfl) rfl (QO.loadA ty23 (by rfl) (by repeat (first | exact List.Mem.head _ | refine List.Mem.tail _ ?_)) (by rfl) (by rfl)) ?_) | (refine RT.take (i := 7) rfl (by kernel_rfl) rfl (QO.loadOA ty23 (by rfl) (by assumption) (by rfl)) ?_)
      refine RT.take (i := 8) rfl (by kernel_rfl) rfl (QO.fieldAddr fo23_0 (by rfl)) ?_
      first | (refine RT.take (i := 9) rfl (by kernel_rfl) rfl (QO.load ty3 (by rfl) (by repeat (first | exact List.Mem.head _ | refine List.Mem.tail _ ?_)) (by rfl)) ?_) | (refine RT.take (i := 9) rfl (by kernel_rfl) rfl (QO.loadO ty3 (by rfl) (by assumption)) ?_) | (refine RT.take (i := 9) rfl (by kernel_rfl) rfl (QO.load ty3 (by rfl) (by repeat (first | exact List.Mem.head _ | refine List.Mem.tail _ ?_)) (by assumption)) ?_)
      refine RT.take (i := 10) rfl (by kernel_rfl) rfl (QO.move) ?_
      refine RT.one (i := 5) (by kernel_rfl) rfl rfl ?_
      refine RS.call rfl (by rfl) ok159 (by rfl) (fun w ho => offset_ X Y (X + p) (Y + q + j) b a p (q + j) o1 _ rfl (by omega) ho1 hX hY (by omega) (by omega) (by omega)) ?_
      rintro _ _ ⟨rfl, rfl⟩
      refine RS.nil ⟨(by repeat (first | exact List.Sublist.refl _ | exact List.nil_sublist _ | refine List.Sublist.cons_cons _ ?_ | refine List.Sublist.cons _ ?_ | exact Sbp.refl | exact Sbp.nil | refine Sbp.cons (by repeat (first | exact Rem.head | apply Rem.tail)) ?_ | exact Sbp.app | refine Sbp.skip ?_)), ?_⟩
      refine RT.one (i := 11) (by kernel_rfl) rfl rfl ?_
      refine RS.call rfl (by rfl) ok159 (by rfl) (fun w ho => offset_ X2 Y2 (X + p) (Y + q + j) b2 a2 p2 (q2 + j) o2 _ mt.x (by omega) ho2 hX2 hY2 (by omega) (by omega) (by omega)) ?_
      rintro _ _ ⟨rfl, rfl⟩
      refine RS.nil ⟨(by repeat (first | exact List.Sublist.refl _ | exact List.nil_sublist _ | refine List.Sublist.cons_cons _ ?_ | refine List.Sublist.cons _ ?_ | exact Sbp.refl | exact Sbp.nil | refine Sbp.cons (by repeat (first | exact Rem.head | apply Rem.tail)) ?_ | exact Sbp.app | refine Sbp.skip ?_)), ?_⟩
      refine RT.take (i := 12) rfl (by kernel_rfl) rfl (QO.assign) ?_
      refine RT.take (i := 13) rfl (by kernel_rfl) rfl (QO.assign) ?_
      refine RT.done (by kernel_rfl) ?_
      refine thenC_n ?_
      refine CS.seq ?_
      refine CS.region ?_
      refine RS.q rfl (QO.fieldAddr fo23_2 (by rfl)) ?_
      first | (refine RS.q rfl (QO.load ty3 (by rfl) (by repeat (first | exact List.Mem.head _ | refine List.Mem.tail _ ?_)) (by rfl)) ?_) | (refine RS.q rfl (QO.loadO ty3 (by rfl) (by assumption)) ?_) | (refine RS.q rfl (QO.load ty3 (by rfl) (by repeat (first | exact List.Mem.head _ | refine List.Mem.tail _ ?_)) (by assumption)) ?_)
      first | (refine RS.q rfl (QO.mul (by rfl) (by rfl) (by omega) (by omega)) ?_) | (refine RS.q rfl (QO.ibin (by rfl) (by rfl) trivial) ?_)
      refine RS.q rfl (QO.move) ?_
      refine RS.nil ?_
      refine thenC_n ?_
      refine CS.block ?_
      refine CS.loop (X := Nat) (9 :: 46 :: 47 :: 48 :: 49 :: 50 :: 51 :: 52 :: 53 :: 54 :: 55 :: 56 :: 57 :: 58 :: 59 :: 60 :: 61 :: 62 :: 63 :: []) (fun k => [(46, iv (k : Int))]) (fun k => ⟨g4, 23, [iv (X + (p : Int)), iv (Y + (q : Int)), iv (ww : Int), iv (hh : Int)]⟩ :: ⟨g3, 26, [iv X2, iv Y2, iv (a2 : Int), iv (b2 : Int), .slice (some ⟨bA, oA, none⟩) zs.length c2]⟩ :: ⟨g2, 26, [iv X, iv Y, iv (a : Int), iv (b : Int), .slice (some ⟨g, 0, none⟩) n c]⟩ :: ⟨g, 33, (mixL (4 * (a * b)) (inP a p ww q j k) (madeF (pixF zs X2 Y2 a2 b2) X Y a) ys).map flt⟩ :: K) (fun k => k ≤ 4 * ww) (fun k => 4 * ww - k) 0 (Nat.zero_le _) ?_ ?_ ?_
      · exact (by repeat (first | exact kn_nil | refine kn_cons (by rfl) ?_))
      · exact (by repeat (first | exact List.Sublist.refl _ | exact List.nil_sublist _ | refine List.Sublist.cons_cons _ ?_ | refine List.Sublist.cons _ ?_ | exact Sbp.refl | exact Sbp.nil | refine Sbp.cons (by repeat (first | exact Rem.head | apply Rem.tail)) ?_ | exact Sbp.app | refine Sbp.skip ?_))
      · intro k gj8 hz
        refine CS.seq ?_
        refine CS.region ?_
        refine RS.q rfl (QO.lss (by rfl) (by rfl)) ?_
        refine RS.nil ?_
        refine thenC_n ?_
        refine CS.seq ?_
        refine CS.cond (by rfl) (fun hb1 => ?_) (fun hb1 => ?_)
        · have hb1p := of_decide_eq_true hb1
          refine CS.skip ?_
          refine thenC_n ?_
          refine CS.seq ?_
          refine CS.block ?_
          refine CS.seq ?_
          refine CS.region ?_
          refine RS.q rfl (QO.move) ?_
          refine RS.q rfl (QO.assign) ?_
          refine RS.nil ?_
          refine thenC_n ?_
          refine CS.draw 14 rfl (by kernel_rfl) (by kernel_rfl) ?_
          refine RT.take (i := 0) rfl (by kernel_rfl) rfl (QO.fieldAddr fo26_1 (by rfl)) ?_
          first | (refine RT.take (i := 1) rfl (by kernel_rfl) rfl (QO.load ty24 (by rfl) (by repeat (first | exact List.Mem.head _ | refine List.Mem.tail _ ?_)) (by rfl)) ?_) | (refine RT.take (i := 1) rfl (by kernel_rfl) rfl (QO.loadO ty24 (by rfl) (by assumption)) ?_) | (refine RT.take (i := 1) rfl (by kernel_rfl) rfl (QO.load ty24 (by rfl) (by repeat (first | exact List.Mem.head _ | refine List.Mem.tail _ ?_)) (by assumption)) ?_)
          refine RT.take (i := 2) rfl (by kernel_rfl) rfl (QO.move) ?_
          refine RT.take (i := 3) rfl (by kernel_rfl) rfl (QO.move) ?_
          first | (refine RT.takev (i := 4) rfl (by kernel_rfl) rfl (QO.add (by rfl) (by rfl) (by omega) (by omega)) (congrArg iv (show (o1 : Int) + (k : Int) = ((o1 + k : Nat) : Int) by omega)) ?_) | (refine RT.takev (i := 4) rfl (by kernel_rfl) rfl (QO.ibin (by rfl) (by rfl) trivial) (congrArg iv (show (o1 : Int) + (k : Int) = ((o1 + k : Nat) : Int) by omega)) ?_)
          refine RT.take (i := 5) rfl (by kernel_rfl) rfl (QO.fieldAddr fo26_1 (by rfl)) ?_
          first | (refine RT.take (i := 6) rfl (by kernel_rfl) rfl (QO.load ty24 (by rfl) (by repeat (first | exact List.Mem.head _ | refine List.Mem.tail _ ?_)) (by rfl)) ?_) | (refine RT.take (i := 6) rfl (by kernel_rfl) rfl (QO.loadO ty24 (by rfl) (by assumption)) ?_) | (refine RT.take (i := 6) rfl (by kernel_rfl) rfl (QO.load ty24 (by rfl) (by repeat (first | exact List.Mem.head _ | refine List.Mem.tail _ ?_)) (by assumption)) ?_)
          refine RT.take (i := 7) rfl (by kernel_rfl) rfl (QO.move) ?_
          refine RT.take (i := 8) rfl (by kernel_rfl) rfl (QO.move) ?_
          first | (refine RT.takev (i := 9) rfl (by kernel_rfl) rfl (QO.add (by rfl) (by rfl) (by omega) (by omega)) (congrArg iv (show (o2 : Int) + (k : Int) = ((o2 + k : Nat) : Int) by omega)) ?_) | (refine RT.takev (i := 9) rfl (by kernel_rfl) rfl (QO.ibin (by rfl) (by rfl) trivial) (congrArg iv (show (o2 : Int) + (k : Int) = ((o2 + k : Nat) : Int) by omega)) ?_)
          first | (refine RT.take (i := 10) rfl (by kernel_rfl) rfl (QO.idx0 Try.underlying24 ty33 (by rfl) (by rfl) (by rfl) (by omega)) ?_) | (refine RT.take (i := 10) rfl (by kernel_rfl) rfl (QO.idxn Try.underlying24 ty33 (by rfl) (by rfl) (by rfl) (by omega)) ?_) | (refine RT.take (i := 10) rfl (by kernel_rfl) rfl (QO.idx1 Try.underlying24 ty33 (by rfl) (by rfl) (by omega) (by omega)) ?_)
          refine RT.take (i := 11) rfl (by kernel_rfl) rfl (QO.loadO ty33 (by rfl) (hcell _ _ (by rw [List.getElem?_eq_getElem (show o2 + k < zs.length by omega), getD_at]))) ?_
          refine RT.one (i := 12) (by kernel_rfl) rfl rfl ?_
          refine RS.call rfl (by rfl) ok117 (by rfl) (fun w ho => clean _ _) ?_
          rintro _ _ ⟨rfl, rfl⟩
          refine RS.nil ⟨(by repeat (first | exact List.Sublist.refl _ | exact List.nil_sublist _ | refine List.Sublist.cons_cons _ ?_ | refine List.Sublist.cons _ ?_ | exact Sbp.refl | exact Sbp.nil | refine Sbp.cons (by repeat (first | exact Rem.head | apply Rem.tail)) ?_ | exact Sbp.app | refine Sbp.skip ?_)), ?_⟩
          first | (refine RT.take (i := 13) rfl (by kernel_rfl) rfl (QO.idx0 Try.underlying24 ty33 (by rfl) (by rfl) (by rfl) (by omega)) ?_) | (refine RT.take (i := 13) rfl (by kernel_rfl) rfl (QO.idxn Try.underlying24 ty33 (by rfl) (by rfl) (by rfl) (by omega)) ?_) | (refine RT.take (i := 13) rfl (by kernel_rfl) rfl (QO.idx1 Try.underlying24 ty33 (by rfl) (by rfl) (by omega) (by omega)) ?_)
          refine RT.tail (i := 14) (by kernel_rfl) rfl rfl ?_
          refine RS.store1e ty33 rfl (by rfl) (by rfl) (by rfl) (over_set (N := 4 * (a * b)) (j := j) (k := k) (w := ww) (f := madeF (pixF zs X2 Y2 a2 b2) X Y a) (ys := ys) ho1 mt5 (by omega) (over_at (j := j) (k := k) (w := ww) (b2 := b2) ho1 ho2 mt.x mt.y (by omega) mt5 mt6 (by omega))) (by repeat (first | exact Upd.head | apply Upd.tail)) (by rw [List.length_map, mixL_len]; omega) ?_
          refine RS.nil ?_
          refine RT.done (by kernel_rfl) ?_
          refine blockC_n ?_
          refine thenC_n ?_
          refine CS.region ?_
          first | (refine RS.q rfl (QO.add (by rfl) (by rfl) (by omega) (by omega)) ?_) | (refine RS.q rfl (QO.ibin (by rfl) (by rfl) trivial) ?_)
          refine RS.q rfl (QO.move) ?_
          refine RS.nil ?_
          refine loopQ_n (by intro t ht; repeat (first | exact frame_puts ht (frame_mix ht) _ rfl | (refine frame_put rfl ht ?_) | (refine frame_puts ht ?_ _ rfl) | exact frame_mix ht | (refine frame_mix2 rfl ht ?_) | exact rfl)) ?_
          exact ⟨k + 1, by omega, by omega, (by repeat (first | exact kn_nil | refine kn_cons (by rfl) ?_)), (by repeat (first | exact List.Sublist.refl _ | exact List.nil_sublist _ | refine List.Sublist.cons_cons _ ?_ | refine List.Sublist.cons _ ?_ | exact Sbp.refl | exact Sbp.nil | refine Sbp.cons (by repeat (first | exact Rem.head | apply Rem.tail)) ?_ | exact Sbp.app | refine Sbp.skip ?_))⟩
        · have hb1p := of_decide_eq_false hb1
          refine CS.exit ?_
          refine thenC_x ?_
          refine loopQ_x ?_
          refine blockC_x ?_
          refine blockC_n ?_
          refine thenC_n ?_
          refine CS.region ?_
          refine RS.q rfl (QO.move) ?_
          first | (refine RS.q rfl (QO.add (by rfl) (by rfl) (by omega) (by omega)) ?_) | (refine RS.q rfl (QO.ibin (by rfl) (by rfl) trivial) ?_)
          refine RS.q rfl (QO.assign) ?_
          refine RS.nil ?_
          refine loopQ_n (by intro t ht; repeat (first | exact frame_puts ht (frame_mix ht) _ rfl | (refine frame_put rfl ht ?_) | (refine frame_puts ht ?_ _ rfl) | exact frame_mix ht | (refine frame_mix2 rfl ht ?_) | exact rfl)) ?_
          exact ⟨j + 1, by omega, by omega, kn_cons (congrArg iv (show Y + (q : Int) + (j : Int) + 1 = Y + (q : Int) + ((j + 1 : Nat) : Int) by omega)) kn_nil, (by obtain rfl : k = 4 * ww := (by omega); rw [over_row]; exact (by repeat (first | exact List.Sublist.refl _ | exact List.nil_sublist _ | refine List.Sublist.cons_cons _ ?_ | refine List.Sublist.cons _ ?_ | exact Sbp.refl | exact Sbp.nil | refine Sbp.cons (by repeat (first | exact Rem.head | apply Rem.tail)) ?_ | exact Sbp.app | refine Sbp.skip ?_)))⟩
    · have hb0p := of_decide_eq_false hb0
      refine CS.exit ?_
      refine thenC_x ?_
      refine loopQ_x ?_
      refine blockC_x ?_
      refine retQ.mk (H' := ⟨g, 33, (overV ys zs X Y a b X2 Y2 a2 b2).map flt⟩ :: K) (.inl rfl) RVs.nil (by obtain rfl : j = hh := (by omega); rw [← over_done mt.mx mt.my mt.mw mt.mh]; exact (by repeat (first | exact List.Sublist.refl _ | exact List.nil_sublist _ | refine List.Sublist.cons_cons _ ?_ | refine List.Sublist.cons _ ?_ | exact Sbp.refl | exact Sbp.nil | refine Sbp.cons (by repeat (first | exact Rem.head | apply Rem.tail)) ?_ | exact Sbp.app | refine Sbp.skip ?_))) ?_
      exact ⟨rfl, rfl⟩

theorem copyInto (X Y X2 Y2 : Int) (a b a2 b2 g n c n2 c2 : Nat) (A2 : Option Addr) (ys zs : List Nat) (K : HL) (W : World) (hl : ys.length = 4 * (a * b)) (hn : n = 4 * (a * b)) (hl2 : zs.length = n2) (hA2 : FS W A2 zs) (hn2 : n2 = 4 * (a2 * b2)) (hX : -1048576 ≤ X ∧ X ≤ 1048576) (hY : -1048576 ≤ Y ∧ Y ≤ 1048576) (ha : 1 ≤ a ∧ a ≤ 256) (hb : 1 ≤ b ∧ b ≤ 256) (hX2 : -1048576 ≤ X2 ∧ X2 ≤ 1048576) (hY2 : -1048576 ≤ Y2 ∧ Y2 ≤ 1048576) (ha2 : 1 ≤ a2 ∧ a2 ≤ 256) (hb2 : 1 ≤ b2 ∧ b2 ≤ 256) : FnH Try.prog 196 #[.agg #[iv X, iv Y, iv (a : Int), iv (b : Int), .slice (some ⟨g, 0, none⟩) n c], .agg #[iv X2, iv Y2, iv (a2 : Int), iv (b2 : Int), .slice A2 n2 c2]] W (⟨g, 33, ys.map flt⟩ :: K) (fun v H => v = .tuple #[] ∧ H = ⟨g, 33, (overV ys zs X Y a b X2 Y2 a2 b2).map flt⟩ :: K) := by
  rcases Bool.eq_false_or_eq_true (cmB X Y a b X2 Y2 a2 b2) with h | h
  · obtain ⟨p, q, p2, q2, w, h', hT, mt⟩ := meets h
    exact copyInto_T X Y X2 Y2 a b a2 b2 g n c n2 c2 A2 ys zs K W hl hn hl2 hA2 hn2 hX hY ha hb hX2 hY2 ha2 hb2 h p q p2 q2 w h' hT mt
  · exact copyInto_F X Y X2 Y2 a b a2 b2 g n c n2 c2 A2 ys zs K W hl hn hl2 hA2 hn2 hX hY ha hb hX2 hY2 ha2 hb2 h

def cutE (rx ry rw_ rh X Y a b : Int) : Int := if regErr rx ry rw_ rh ≠ 0 then regErr rx ry rw_ rh else if insB rx ry rw_ rh X Y a b then 0 else 5
def cutV (xs : List Nat) (X Y : Int) (a b : Nat) (rx ry rw_ rh : Int) : List Nat := madeV (pixF xs X Y a b) rx ry rw_.toNat (4 * (rw_.toNat * rh.toNat))
theorem insB_T {ax ay aw ah bx bz bw bh : Int} (h : insB ax ay aw ah bx bz bw bh = true) : bx ≤ ax ∧ bz ≤ ay ∧ ax ≤ bx + bw - aw ∧ ay ≤ bz + bh - ah := of_decide_eq_true h
theorem cut_1 {rx ry rw_ rh X Y a b : Int} (h : regErr rx ry rw_ rh ≠ 0) : cutE rx ry rw_ rh X Y a b = regErr rx ry rw_ rh := if_pos h
theorem cut_2 {rx ry rw_ rh X Y a b : Int} (h : regErr rx ry rw_ rh = 0) (h2 : insB rx ry rw_ rh X Y a b = false) : cutE rx ry rw_ rh X Y a b = 5 := by unfold cutE; rw [if_neg (by simpa using h), if_neg (by rw [h2]; decide)]
theorem cut_3 {rx ry rw_ rh X Y a b : Int} (h : regErr rx ry rw_ rh = 0) (h2 : insB rx ry rw_ rh X Y a b = true) : cutE rx ry rw_ rh X Y a b = 0 := by unfold cutE; rw [if_neg (by simpa using h), if_pos h2]
theorem repl_flt (n : Nat) : List.replicate n (flt 0) = (List.replicate n 0).map flt := by simp

set_option maxRecDepth 100000 in
theorem cut_ (X Y : Int) (a b : Nat) (A : Option Addr) (n c : Nat) (xs : List Nat) (rx ry rw_ rh : Int) (W : World) (hn : xs.length = n) (hA : FS W A xs) (hN : n = 4 * (a * b)) (hc : n ≤ c) (hcm : c ≤ maxLen) (hX : -1048576 ≤ X ∧ X ≤ 1048576) (hY : -1048576 ≤ Y ∧ Y ≤ 1048576) (ha : 1 ≤ a ∧ a ≤ 256) (hb : 1 ≤ b ∧ b ≤ 256) (hfr : frErr X Y a b n = 0) : Fn_ Try.prog 102 #[.agg #[iv X, iv Y, iv (a : Int), iv (b : Int), .slice A n c], .agg #[iv rx, iv ry, iv rw_, iv rh]] W (fun v H => FrR (cutE rx ry rw_ rh X Y a b) rx ry rw_ rh (cutV xs X Y a b rx ry rw_ rh) v H) := by
  subst hn
  have hab1 := Nat.mul_le_mul ha.1 hb.1
  have hab2 := Nat.mul_le_mul ha.2 hb.2
  have hcast : ((a * b : Nat) : Int) = (a : Int) * (b : Int) := Int.natCast_mul ..
  have h41 : 4 * (a : Int) * (b : Int) = 4 * ((a : Int) * (b : Int)) := Int.mul_assoc ..
  have hcm2 := hcm
  unfold maxLen at hcm2
  refine Fn_.intro Try.func102 rfl rfl (by rfl) ?_
  refine CS.seq ?_
  refine CS.region ?_
  refine RS.box rfl (by rfl) (by rfl) ?_
  intro g2
  refine RS.box rfl (by rfl) (by rfl) ?_
  intro g3
  refine RS.alloc rfl ty26 ?_
  intro g4
  refine RS.q rfl (QO.assign) ?_
  refine RS.nil ?_
  refine thenC_n ?_
  refine CS.seq ?_
  refine CS.seq ?_
  refine CS.region ?_
  first | (refine RS.q rfl (QO.loadB ty26 (by rfl) (by repeat (first | exact List.Mem.head _ | refine List.Mem.tail _ ?_)) (by rfl)) ?_) | (refine RS.q rfl (QO.loadA ty26 (by rfl) (by repeat (first | exact List.Mem.head _ | refine List.Mem.tail _ ?_)) (by rfl) (by rfl)) ?_) | (refine RS.q rfl (QO.loadOA ty26 (by rfl) (by assumption) (by rfl)) ?_)
  refine RS.call rfl (by rfl) ok116 (by rfl) (fun w ho => check _ _ _ _ _ _ _ _) ?_
  rintro _ _ ⟨rfl, rfl⟩
  refine RS.q rfl (QO.assign) ?_
  refine RS.nil ?_
  refine thenC_n ?_
  refine CS.seq ?_
  refine CS.region ?_
  refine RS.q rfl (QO.move) ?_
  refine RS.qv rfl (QO.neq (by rfl) (by rfl)) (congrArg Value.bool (show (frErr X Y (a : Int) (b : Int) xs.length != 0) = false from by rw [hfr]; rfl)) ?_
  refine RS.nil ?_
  refine thenC_n ?_
  refine CS.condF (by rfl) rfl ?_
  refine CS.skip ?_
  refine thenC_n ?_
  refine CS.seq ?_
  refine CS.seq ?_
  refine CS.region ?_
  first | (refine RS.q rfl (QO.loadB ty23 (by rfl) (by repeat (first | exact List.Mem.head _ | refine List.Mem.tail _ ?_)) (by rfl)) ?_) | (refine RS.q rfl (QO.loadA ty23 (by rfl) (by repeat (first | exact List.Mem.head _ | refine List.Mem.tail _ ?_)) (by rfl) (by rfl)) ?_) | (refine RS.q rfl (QO.loadOA ty23 (by rfl) (by assumption) (by rfl)) ?_)
  refine RS.call rfl (by rfl) ok36 (by rfl) (fun w ho => checkRegion _ _ _ _ _) ?_
  rintro _ _ ⟨rfl, rfl⟩
  refine RS.q rfl (QO.assign) ?_
  refine RS.nil ?_
  refine thenC_n ?_
  refine CS.seq ?_
  refine CS.region ?_
  refine RS.q rfl (QO.move) ?_
  refine RS.q rfl (QO.neq (by rfl) (by rfl)) ?_
  refine RS.nil ?_
  refine thenC_n ?_
  refine CS.cond (by rfl) (fun hb0 => ?_) (fun hb0 => ?_)
  · have hb0p := bne_iff_ne.1 hb0
    refine CS.seq ?_
    refine CS.region ?_
    refine RS.q rfl (QO.build ty26 pl26 (by rfl)) ?_
    refine RS.q rfl (QO.move) ?_
    first | refine RS.storeB ty26 (by rfl) (by rfl) (by rfl) (by rfl) (by rfl) (by repeat (first | exact Upd.head | apply Upd.tail)) (by rfl) ?_ | refine RS.storeP ty26 (by rfl) (by rfl) (by rfl) (by rfl) (by rfl) (by repeat (first | exact Upd.head | apply Upd.tail)) (by rfl) ?_
    refine RS.q rfl (QO.assign) ?_
    refine RS.nil ?_
    refine thenC_n ?_
    refine CS.ret ?_
    refine thenC_r ?_
    refine retQ.mk (H' := []) (.inr rfl) (RVs.cellA ty26 (by rfl) (by repeat (first | exact List.Mem.head _ | refine List.Mem.tail _ ?_)) (by rfl) (RVs.tmp (by rfl) RVs.nil)) (List.nil_sublist _) ?_
    exact FrR.mkE (cut_1 hb0p) hb0p
  · have hb0p := of_bne_false hb0
    refine CS.skip ?_
    refine thenC_n ?_
    refine CS.seq ?_
    refine CS.seq ?_
    refine CS.region ?_
    have hr := regErr_ok (of_bne_false hb0)
    obtain ⟨u, rfl⟩ : ∃ u : Nat, rw_ = (u : Int) := ⟨rw_.toNat, by omega⟩
    obtain ⟨s, rfl⟩ : ∃ s : Nat, rh = (s : Int) := ⟨rh.toNat, by omega⟩
    have hrc : ((u * s : Nat) : Int) = (u : Int) * (s : Int) := Int.natCast_mul ..
    first | (refine RS.q rfl (QO.loadB ty23 (by rfl) (by repeat (first | exact List.Mem.head _ | refine List.Mem.tail _ ?_)) (by rfl)) ?_) | (refine RS.q rfl (QO.loadA ty23 (by rfl) (by repeat (first | exact List.Mem.head _ | refine List.Mem.tail _ ?_)) (by rfl) (by rfl)) ?_) | (refine RS.q rfl (QO.loadOA ty23 (by rfl) (by assumption) (by rfl)) ?_)
    refine RS.q rfl (QO.fieldAddr fo26_0 (by rfl)) ?_
    first | (refine RS.q rfl (QO.loadB ty23 (by rfl) (by repeat (first | exact List.Mem.head _ | refine List.Mem.tail _ ?_)) (by rfl)) ?_) | (refine RS.q rfl (QO.loadA ty23 (by rfl) (by repeat (first | exact List.Mem.head _ | refine List.Mem.tail _ ?_)) (by rfl) (by rfl)) ?_) | (refine RS.q rfl (QO.loadOA ty23 (by rfl) (by assumption) (by rfl)) ?_)
    refine RS.call rfl (by rfl) ok44 (by rfl) (fun w ho => inside rx ry u s X Y a b _ (by omega) (by omega) (by omega) (by omega) (by omega) (by omega) (by omega) (by omega)) ?_
    rintro _ _ ⟨rfl, rfl⟩
    refine RS.q rfl (QO.not (by rfl)) ?_
    refine RS.nil ?_
    refine thenC_n ?_
    refine CS.cond (by rfl) (fun hb1 => ?_) (fun hb1 => ?_)
    · have hb1p := Eq.mp (Bool.not_eq_true' _) hb1
      refine CS.seq ?_
      refine CS.region ?_
      refine RS.q rfl (QO.build ty26 pl26 (by rfl)) ?_
      first | refine RS.storeB ty26 (by rfl) (by rfl) (by rfl) (by rfl) (by rfl) (by repeat (first | exact Upd.head | apply Upd.tail)) (by rfl) ?_ | refine RS.storeP ty26 (by rfl) (by rfl) (by rfl) (by rfl) (by rfl) (by repeat (first | exact Upd.head | apply Upd.tail)) (by rfl) ?_
      refine RS.q rfl (QO.assign) ?_
      refine RS.nil ?_
      refine thenC_n ?_
      refine CS.ret ?_
      refine thenC_r ?_
      refine retQ.mk (H' := []) (.inr rfl) (RVs.cellA ty26 (by rfl) (by repeat (first | exact List.Mem.head _ | refine List.Mem.tail _ ?_)) (by rfl) (RVs.tmp (by rfl) RVs.nil)) (List.nil_sublist _) ?_
      exact FrR.mkE (cut_2 (of_bne_false hb0) hb1p) (by decide)
    · have hb1p := Eq.mp (Bool.not_eq_false' _) hb1
      refine CS.skip ?_
      refine thenC_n ?_
      refine CS.cut (X := Nat × Nat) [8, 27, 28, 29, 30, 31, 32, 33, 34, 35] (fun z => [(8, .pointer (some ⟨z.1, 0, none⟩))]) (fun z => [⟨z.1, 26, [iv rx, iv ry, iv (u : Int), iv (s : Int), .slice (some ⟨z.2, 0, none⟩) (4 * (u * s)) (4 * (u * s))]⟩, ⟨z.2, 33, (List.replicate (4 * (u * s)) 0).map flt⟩, ⟨g4, 26, [iv 0, iv 0, iv 0, iv 0, .slice none 0 0]⟩, ⟨g2, 26, [iv X, iv Y, iv (a : Int), iv (b : Int), .slice A xs.length c]⟩]) (fun z => True) ?_ ?_
      · refine CS.draw 10 rfl (by kernel_rfl) (by kernel_rfl) ?_
        first | (refine RT.take (i := 0) rfl (by kernel_rfl) rfl (QO.loadB ty23 (by rfl) (by repeat (first | exact List.Mem.head _ | refine List.Mem.tail _ ?_)) (by rfl)) ?_) | (refine RT.take (i := 0) rfl (by kernel_rfl) rfl (QO.loadA ty23 (by rfl) (by repeat (first | exact List.Mem.head _ | refine List.Mem.tail _ ?_)) (by rfl) (by rfl)) ?_) | (refine RT.take (i := 0) rfl (by kernel_rfl) rfl (QO.loadOA ty23 (by rfl) (by assumption) (by rfl)) ?_)
        refine RT.take (i := 1) rfl (by kernel_rfl) rfl (QO.fieldAddr fo23_2 (by rfl)) ?_
        first | (refine RT.take (i := 2) rfl (by kernel_rfl) rfl (QO.load ty3 (by rfl) (by repeat (first | exact List.Mem.head _ | refine List.Mem.tail _ ?_)) (by rfl)) ?_) | (refine RT.take (i := 2) rfl (by kernel_rfl) rfl (QO.loadO ty3 (by rfl) (by assumption)) ?_) | (refine RT.take (i := 2) rfl (by kernel_rfl) rfl (QO.load ty3 (by rfl) (by repeat (first | exact List.Mem.head _ | refine List.Mem.tail _ ?_)) (by assumption)) ?_)
        first | (refine RT.take (i := 3) rfl (by kernel_rfl) rfl (QO.mul (by rfl) (by rfl) (by omega) (by omega)) ?_) | (refine RT.take (i := 3) rfl (by kernel_rfl) rfl (QO.ibin (by rfl) (by rfl) trivial) ?_)
        refine RT.take (i := 4) rfl (by kernel_rfl) rfl (QO.fieldAddr fo23_3 (by rfl)) ?_
        first | (refine RT.take (i := 5) rfl (by kernel_rfl) rfl (QO.load ty3 (by rfl) (by repeat (first | exact List.Mem.head _ | refine List.Mem.tail _ ?_)) (by rfl)) ?_) | (refine RT.take (i := 5) rfl (by kernel_rfl) rfl (QO.loadO ty3 (by rfl) (by assumption)) ?_) | (refine RT.take (i := 5) rfl (by kernel_rfl) rfl (QO.load ty3 (by rfl) (by repeat (first | exact List.Mem.head _ | refine List.Mem.tail _ ?_)) (by assumption)) ?_)
        first | (refine RT.takev (i := 6) rfl (by kernel_rfl) rfl (QO.mul (by rfl) (by rfl) (by omega) (by omega)) (congrArg iv (show 4 * (u : Int) * (s : Int) = ((4 * (u * s) : Nat) : Int) by omega)) ?_) | (refine RT.takev (i := 6) rfl (by kernel_rfl) rfl (QO.ibin (by rfl) (by rfl) trivial) (congrArg iv (show 4 * (u : Int) * (s : Int) = ((4 * (u * s) : Nat) : Int) by omega)) ?_)
        refine RT.two (i := 7) (j := 9) (by kernel_rfl) rfl rfl ?_ ?_
        · refine RS.make rfl Try.underlying24 ty33 (by rfl) (by rfl) (by omega) (by omega) (by omega) (by omega) ?_
          intro g34
          refine RS.nil ⟨(by repeat (first | exact List.Sublist.refl _ | exact List.nil_sublist _ | refine List.Sublist.cons_cons _ ?_ | refine List.Sublist.cons _ ?_ | exact Sbp.refl | exact Sbp.nil | refine Sbp.cons (by repeat (first | exact Rem.head | apply Rem.tail)) ?_ | exact Sbp.app | refine Sbp.skip ?_)), ?_⟩
          refine RT.take (i := 8) rfl (by kernel_rfl) rfl (QO.build ty26 pl26 (by rfl)) ?_
          refine RT.one (i := 9) (by kernel_rfl) rfl rfl ?_
          refine RS.alloc rfl ty26 ?_
          intro g8
          refine RS.nil ⟨(by repeat (first | exact List.Sublist.refl _ | exact List.nil_sublist _ | refine List.Sublist.cons_cons _ ?_ | refine List.Sublist.cons _ ?_ | exact Sbp.refl | exact Sbp.nil | refine Sbp.cons (by repeat (first | exact Rem.head | apply Rem.tail)) ?_ | exact Sbp.app | refine Sbp.skip ?_)), ?_⟩
          refine RT.tail (i := 10) (by kernel_rfl) rfl rfl ?_
          first | refine RS.storeB ty26 (by rfl) (by rfl) (by rfl) (by rfl) (by rfl) (by repeat (first | exact Upd.head | apply Upd.tail)) (by rfl) ?_ | refine RS.storeP ty26 (by rfl) (by rfl) (by rfl) (by rfl) (by rfl) (by repeat (first | exact Upd.head | apply Upd.tail)) (by rfl) ?_
          refine RS.nil ?_
          refine RT.done (by kernel_rfl) ?_
          refine cutQ_n (by intro t ht; repeat (first | exact frame_puts ht (frame_mix ht) _ rfl | (refine frame_put rfl ht ?_) | (refine frame_puts ht ?_ _ rfl) | exact frame_mix ht | (refine frame_mix2 rfl ht ?_) | exact rfl)) ?_
          exact ⟨(g8, g34), trivial, (by repeat (first | exact kn_nil | refine kn_cons (by rfl) ?_)), (by rw [← repl_flt]; exact (by repeat (first | exact List.Sublist.refl _ | exact List.nil_sublist _ | refine List.Sublist.cons_cons _ ?_ | refine List.Sublist.cons _ ?_ | exact Sbp.refl | exact Sbp.nil | refine Sbp.cons (by repeat (first | exact Rem.head | apply Rem.tail)) ?_ | exact Sbp.app | refine Sbp.skip ?_)))⟩
        · refine RS.alloc rfl ty26 ?_
          intro g8
          refine RS.nil ⟨(by repeat (first | exact List.Sublist.refl _ | exact List.nil_sublist _ | refine List.Sublist.cons_cons _ ?_ | refine List.Sublist.cons _ ?_ | exact Sbp.refl | exact Sbp.nil | refine Sbp.cons (by repeat (first | exact Rem.head | apply Rem.tail)) ?_ | exact Sbp.app | refine Sbp.skip ?_)), ?_⟩
          refine RT.one (i := 7) (by kernel_rfl) rfl rfl ?_
          refine RS.make rfl Try.underlying24 ty33 (by rfl) (by rfl) (by omega) (by omega) (by omega) (by omega) ?_
          intro g34
          refine RS.nil ⟨(by repeat (first | exact List.Sublist.refl _ | exact List.nil_sublist _ | refine List.Sublist.cons_cons _ ?_ | refine List.Sublist.cons _ ?_ | exact Sbp.refl | exact Sbp.nil | refine Sbp.cons (by repeat (first | exact Rem.head | apply Rem.tail)) ?_ | exact Sbp.app | refine Sbp.skip ?_)), ?_⟩
          refine RT.take (i := 8) rfl (by kernel_rfl) rfl (QO.build ty26 pl26 (by rfl)) ?_
          refine RT.tail (i := 10) (by kernel_rfl) rfl rfl ?_
          first | refine RS.storeB ty26 (by rfl) (by rfl) (by rfl) (by rfl) (by rfl) (by repeat (first | exact Upd.head | apply Upd.tail)) (by rfl) ?_ | refine RS.storeP ty26 (by rfl) (by rfl) (by rfl) (by rfl) (by rfl) (by repeat (first | exact Upd.head | apply Upd.tail)) (by rfl) ?_
          refine RS.nil ?_
          refine RT.done (by kernel_rfl) ?_
          refine cutQ_n (by intro t ht; repeat (first | exact frame_puts ht (frame_mix ht) _ rfl | (refine frame_put rfl ht ?_) | (refine frame_puts ht ?_ _ rfl) | exact frame_mix ht | (refine frame_mix2 rfl ht ?_) | exact rfl)) ?_
          exact ⟨(g8, g34), trivial, (by repeat (first | exact kn_nil | refine kn_cons (by rfl) ?_)), (by rw [← repl_flt]; exact (by repeat (first | exact List.Sublist.refl _ | exact List.nil_sublist _ | refine List.Sublist.cons_cons _ ?_ | refine List.Sublist.cons _ ?_ | exact Sbp.refl | exact Sbp.nil | refine Sbp.cons (by repeat (first | exact Rem.head | apply Rem.tail)) ?_ | exact Sbp.app | refine Sbp.skip ?_)))⟩
      · intro z gj hz
        obtain ⟨g, gm⟩ := z
        show CS _ _ _ _ _ (puts (mix _ _ _) [(8, .pointer (some ⟨g, 0, none⟩))]) ([⟨g, 26, [iv rx, iv ry, iv (u : Int), iv (s : Int), .slice (some ⟨gm, 0, none⟩) (4 * (u * s)) (4 * (u * s))]⟩, ⟨gm, 33, (List.replicate (4 * (u * s)) 0).map flt⟩, ⟨g4, 26, [iv 0, iv 0, iv 0, iv 0, .slice none 0 0]⟩, ⟨g2, 26, [iv X, iv Y, iv (a : Int), iv (b : Int), .slice A xs.length c]⟩])
        refine CS.seq ?_
        refine CS.region ?_
        first | (refine RS.q rfl (QO.loadB ty26 (by rfl) (by repeat (first | exact List.Mem.head _ | refine List.Mem.tail _ ?_)) (by rfl)) ?_) | (refine RS.q rfl (QO.loadA ty26 (by rfl) (by repeat (first | exact List.Mem.head _ | refine List.Mem.tail _ ?_)) (by rfl) (by rfl)) ?_) | (refine RS.q rfl (QO.loadOA ty26 (by rfl) (by assumption) (by rfl)) ?_)
        first | (refine RS.q rfl (QO.loadB ty26 (by rfl) (by repeat (first | exact List.Mem.head _ | refine List.Mem.tail _ ?_)) (by rfl)) ?_) | (refine RS.q rfl (QO.loadA ty26 (by rfl) (by repeat (first | exact List.Mem.head _ | refine List.Mem.tail _ ?_)) (by rfl) (by rfl)) ?_) | (refine RS.q rfl (QO.loadOA ty26 (by rfl) (by assumption) (by rfl)) ?_)
        refine RS.callH (⟨gm, 33, (List.replicate (4 * (u * s)) 0).map flt⟩ :: ⟨g, 26, [iv rx, iv ry, iv (u : Int), iv (s : Int), .slice (some ⟨gm, 0, none⟩) (4 * (u * s)) (4 * (u * s))]⟩ :: ⟨g4, 26, [iv 0, iv 0, iv 0, iv 0, .slice none 0 0]⟩ :: []) rfl (by rfl) ok196 (by rfl) (by repeat (first | exact List.Sublist.refl _ | exact List.nil_sublist _ | refine List.Sublist.cons_cons _ ?_ | refine List.Sublist.cons _ ?_ | exact Sbp.refl | exact Sbp.nil | refine Sbp.cons (by repeat (first | exact Rem.head | apply Rem.tail)) ?_ | exact Sbp.app | refine Sbp.skip ?_)) (fun w ho => copyInto rx ry X Y u s a b gm _ _ _ c A _ xs _ _ List.length_replicate rfl rfl hA hN (by omega) (by omega) (by omega) (by omega) hX hY ha hb) ?_
        rintro _ _ ⟨rfl, rfl⟩
        refine RS.nil ?_
        refine thenC_n ?_
        refine CS.seq ?_
        refine CS.region ?_
        first | (refine RS.q rfl (QO.loadB ty26 (by rfl) (by repeat (first | exact List.Mem.head _ | refine List.Mem.tail _ ?_)) (by rfl)) ?_) | (refine RS.q rfl (QO.loadA ty26 (by rfl) (by repeat (first | exact List.Mem.head _ | refine List.Mem.tail _ ?_)) (by rfl) (by rfl)) ?_) | (refine RS.q rfl (QO.loadOA ty26 (by rfl) (by assumption) (by rfl)) ?_)
        first | refine RS.storeB ty26 (by rfl) (by rfl) (by rfl) (by rfl) (by rfl) (by repeat (first | exact Upd.head | apply Upd.tail)) (by rfl) ?_ | refine RS.storeP ty26 (by rfl) (by rfl) (by rfl) (by rfl) (by rfl) (by repeat (first | exact Upd.head | apply Upd.tail)) (by rfl) ?_
        refine RS.q rfl (QO.assign) ?_
        refine RS.nil ?_
        refine thenC_n ?_
        refine CS.ret ?_
        refine retQ.mk (H' := [⟨gm, 33, (cutV xs X Y a b rx ry u s).map flt⟩]) (.inr rfl) (RVs.cellA ty26 (by rfl) (by repeat (first | exact List.Mem.head _ | refine List.Mem.tail _ ?_)) (by rfl) (RVs.tmp (by rfl) RVs.nil)) (by rw [show cutV xs X Y a b rx ry u s = overV (List.replicate (4 * (u * s)) 0) xs rx ry u s X Y a b from (overV_cut (insB_T hb1p).1 (insB_T hb1p).2.1 (by have := insB_T hb1p; omega) (by have := insB_T hb1p; omega)).symm]; exact (by repeat (first | exact List.Sublist.refl _ | exact List.nil_sublist _ | refine List.Sublist.cons_cons _ ?_ | refine List.Sublist.cons _ ?_ | exact Sbp.refl | exact Sbp.nil | refine Sbp.cons (by repeat (first | exact Rem.head | apply Rem.tail)) ?_ | exact Sbp.app | refine Sbp.skip ?_))) ?_
        exact FrR.mk0 (madeV_len ..) (by unfold maxLen; omega) (cut_3 (of_bne_false hb0) hb1p)

theorem two_at3 (X Y X2 Y2 : Int) (a b a2 b2 : Int) (A A2 : Option Addr) (n n2 c c2 k : Nat) (h : k < 2) :
    (([iv X, iv Y, iv a, iv b, Value.slice A n c, iv X2, iv Y2, iv a2, iv b2, Value.slice A2 n2 c2] : List Value).drop (0 + ((k : Nat) : Int).toNat * 5)).take 5 = [iv (f2 X X2 k), iv (f2 Y Y2 k), iv (f2 a a2 k), iv (f2 b b2 k), Value.slice (f2 A A2 k) (f2 n n2 k) (f2 c c2 k)] := by
  match k, h with
  | 0, _ => rfl
  | 1, _ => rfl
def pstE (X Y a b X2 Y2 a2 b2 : Int) : Int := if cmB X Y a b X2 Y2 a2 b2 then 0 else 5
def pstV (xs zs : List Nat) (X Y : Int) (a b : Nat) (X2 Y2 : Int) (a2 b2 : Nat) : List Nat := madeV (pasteF xs zs X Y a b X2 Y2 a2 b2) X Y a (4 * (a * b))
theorem pstV_len (xs zs : List Nat) (X Y : Int) (a b : Nat) (X2 Y2 : Int) (a2 b2 : Nat) : (pstV xs zs X Y a b X2 Y2 a2 b2).length = 4 * (a * b) := madeV_len ..

set_option maxRecDepth 100000 in
theorem paste_F (X Y : Int) (a b : Nat) (A : Option Addr) (n c : Nat) (xs : List Nat) (X2 Y2 : Int) (a2 b2 : Nat) (A2 : Option Addr) (n2 c2 : Nat) (zs : List Nat) (W : World) (hn : xs.length = n) (hA : FS W A xs) (hN : n = 4 * (a * b)) (hc : n ≤ c) (hcm : c ≤ maxLen) (hX : -1048576 ≤ X ∧ X ≤ 1048576) (hY : -1048576 ≤ Y ∧ Y ≤ 1048576) (ha : 1 ≤ a ∧ a ≤ 256) (hb : 1 ≤ b ∧ b ≤ 256) (hn2 : zs.length = n2) (hA2 : FS W A2 zs) (hN2 : n2 = 4 * (a2 * b2)) (hX2 : -1048576 ≤ X2 ∧ X2 ≤ 1048576) (hY2 : -1048576 ≤ Y2 ∧ Y2 ≤ 1048576) (ha2 : 1 ≤ a2 ∧ a2 ≤ 256) (hb2 : 1 ≤ b2 ∧ b2 ≤ 256) (hfr : frErr X Y a b n = 0) (hfr2 : frErr X2 Y2 a2 b2 n2 = 0) (hB : cmB X Y a b X2 Y2 a2 b2 = false) : Fn_ Try.prog 104 #[.agg #[iv X, iv Y, iv (a : Int), iv (b : Int), .slice A n c], .agg #[iv X2, iv Y2, iv (a2 : Int), iv (b2 : Int), .slice A2 n2 c2]] W (fun v H => FrR (pstE X Y a b X2 Y2 a2 b2) X Y a b (pstV xs zs X Y a b X2 Y2 a2 b2) v H) := by
  refine Fn_.intro Try.func104 rfl rfl (by rfl) ?_
  refine CS.seq ?_
  refine CS.region ?_
  refine RS.box rfl (by rfl) (by rfl) ?_
  intro g2
  refine RS.box rfl (by rfl) (by rfl) ?_
  intro g3
  refine RS.alloc rfl ty26 ?_
  intro g4
  refine RS.q rfl (QO.assign) ?_
  refine RS.nil ?_
  refine thenC_n ?_
  refine CS.seq ?_
  refine CS.seq ?_
  refine CS.region ?_
  first | (refine RS.q rfl (QO.loadB ty26 (by rfl) (by repeat (first | exact List.Mem.head _ | refine List.Mem.tail _ ?_)) (by rfl)) ?_) | (refine RS.q rfl (QO.loadA ty26 (by rfl) (by repeat (first | exact List.Mem.head _ | refine List.Mem.tail _ ?_)) (by rfl) (by rfl)) ?_) | (refine RS.q rfl (QO.loadOA ty26 (by rfl) (by assumption) (by rfl)) ?_)
  first | (refine RS.q rfl (QO.loadB ty26 (by rfl) (by repeat (first | exact List.Mem.head _ | refine List.Mem.tail _ ?_)) (by rfl)) ?_) | (refine RS.q rfl (QO.loadA ty26 (by rfl) (by repeat (first | exact List.Mem.head _ | refine List.Mem.tail _ ?_)) (by rfl) (by rfl)) ?_) | (refine RS.q rfl (QO.loadOA ty26 (by rfl) (by assumption) (by rfl)) ?_)
  refine RS.buildSlice rfl Try.underlying127 ty26 (by decide) (by decide) (by rfl) (by rfl) ?_
  intro g15
  refine RS.q rfl (QO.lenS Try.underlying127 (by rfl)) ?_
  refine RS.q rfl (QO.move) ?_
  refine RS.nil ?_
  refine thenC_n ?_
  refine CS.block ?_
  refine CS.loop (X := Nat) (5 :: 7 :: 8 :: 17 :: 18 :: 19 :: 20 :: 21 :: 22 :: 23 :: 24 :: 25 :: 26 :: 27 :: []) (fun k => [(17, iv (k : Int))]) (fun k => [⟨g15, 26, [iv X, iv Y, iv (a : Int), iv (b : Int), .slice A n c, iv X2, iv Y2, iv (a2 : Int), iv (b2 : Int), .slice A2 n2 c2]⟩, ⟨g4, 26, [iv 0, iv 0, iv 0, iv 0, .slice none 0 0]⟩, ⟨g3, 26, [iv X2, iv Y2, iv (a2 : Int), iv (b2 : Int), .slice A2 n2 c2]⟩, ⟨g2, 26, [iv X, iv Y, iv (a : Int), iv (b : Int), .slice A n c]⟩]) (fun k => k ≤ 2) (fun k => 2 - k) 0 (by omega) ?_ ?_ ?_
  · exact (by repeat (first | exact kn_nil | refine kn_cons (by rfl) ?_))
  · exact (by repeat (first | exact List.Sublist.refl _ | exact List.nil_sublist _ | refine List.Sublist.cons_cons _ ?_ | refine List.Sublist.cons _ ?_ | exact Sbp.refl | exact Sbp.nil | refine Sbp.cons (by repeat (first | exact Rem.head | apply Rem.tail)) ?_ | exact Sbp.app | refine Sbp.skip ?_))
  · intro k gj2 hz
    refine CS.seq ?_
    refine CS.region ?_
    refine RS.q rfl (QO.lss (by rfl) (by rfl)) ?_
    refine RS.nil ?_
    refine thenC_n ?_
    refine CS.seq ?_
    refine CS.cond (by rfl) (fun hb0 => ?_) (fun hb0 => ?_)
    · have hb0p := of_decide_eq_true hb0
      refine CS.skip ?_
      refine thenC_n ?_
      refine CS.seq ?_
      refine CS.block ?_
      refine CS.seq ?_
      refine CS.region ?_
      refine RS.q rfl (QO.idx Try.underlying127 ty26 (by rfl) (by rfl) (by omega) (by omega)) ?_
      refine RS.q rfl (QO.loadA ty26 (by rfl) (by repeat (first | exact List.Mem.head _ | refine List.Mem.tail _ ?_)) (two_at3 X Y X2 Y2 a b a2 b2 A A2 n n2 c c2 k (by omega)) (by rfl)) ?_
      refine RS.alloc rfl ty26 ?_
      intro g7
      first | refine RS.storeB ty26 (by rfl) (by rfl) (by rfl) (by rfl) (by rfl) (by repeat (first | exact Upd.head | apply Upd.tail)) (by rfl) ?_ | refine RS.storeP ty26 (by rfl) (by rfl) (by rfl) (by rfl) (by rfl) (by repeat (first | exact Upd.head | apply Upd.tail)) (by rfl) ?_
      refine RS.nil ?_
      refine thenC_n ?_
      refine CS.seq ?_
      refine CS.region ?_
      first | (refine RS.q rfl (QO.loadB ty26 (by rfl) (by repeat (first | exact List.Mem.head _ | refine List.Mem.tail _ ?_)) (by rfl)) ?_) | (refine RS.q rfl (QO.loadA ty26 (by rfl) (by repeat (first | exact List.Mem.head _ | refine List.Mem.tail _ ?_)) (by rfl) (by rfl)) ?_) | (refine RS.q rfl (QO.loadOA ty26 (by rfl) (by assumption) (by rfl)) ?_)
      refine RS.call rfl (by rfl) ok116 (by rfl) (fun w ho => check _ _ _ _ _ _ _ _) ?_
      rintro _ _ ⟨rfl, rfl⟩
      refine RS.q rfl (QO.assign) ?_
      refine RS.nil ?_
      refine thenC_n ?_
      refine CS.seq ?_
      refine CS.region ?_
      refine RS.q rfl (QO.move) ?_
      refine RS.qv rfl (QO.neq (by rfl) (by rfl)) (congrArg Value.bool (show (frErr (f2 X X2 k) (f2 Y Y2 k) (f2 (a : Int) (a2 : Int) k) (f2 (b : Int) (b2 : Int) k) (f2 n n2 k) != 0) = false from by unfold f2; split <;> simp [hfr, hfr2])) ?_
      refine RS.nil ?_
      refine thenC_n ?_
      refine CS.condF (by rfl) rfl ?_
      refine CS.skip ?_
      refine blockC_n ?_
      refine thenC_n ?_
      refine CS.region ?_
      first | (refine RS.q rfl (QO.add (by rfl) (by rfl) (by omega) (by omega)) ?_) | (refine RS.q rfl (QO.ibin (by rfl) (by rfl) trivial) ?_)
      refine RS.q rfl (QO.move) ?_
      refine RS.nil ?_
      refine loopQ_n (by intro t ht; repeat (first | exact frame_puts ht (frame_mix ht) _ rfl | (refine frame_put rfl ht ?_) | (refine frame_puts ht ?_ _ rfl) | exact frame_mix ht | (refine frame_mix2 rfl ht ?_) | exact rfl)) ?_
      exact ⟨k + 1, by omega, by omega, (by repeat (first | exact kn_nil | refine kn_cons (by rfl) ?_)), (by repeat (first | exact List.Sublist.refl _ | exact List.nil_sublist _ | refine List.Sublist.cons_cons _ ?_ | refine List.Sublist.cons _ ?_ | exact Sbp.refl | exact Sbp.nil | refine Sbp.cons (by repeat (first | exact Rem.head | apply Rem.tail)) ?_ | exact Sbp.app | refine Sbp.skip ?_))⟩
    · have hb0p := of_decide_eq_false hb0
      refine CS.exit ?_
      refine thenC_x ?_
      refine loopQ_x ?_
      refine blockC_x ?_
      refine thenC_n ?_
      refine CS.seq ?_
      refine CS.seq ?_
      refine CS.region ?_
      refine RS.q rfl (QO.fieldAddr fo26_0 (by rfl)) ?_
      first | (refine RS.q rfl (QO.loadB ty23 (by rfl) (by repeat (first | exact List.Mem.head _ | refine List.Mem.tail _ ?_)) (by rfl)) ?_) | (refine RS.q rfl (QO.loadA ty23 (by rfl) (by repeat (first | exact List.Mem.head _ | refine List.Mem.tail _ ?_)) (by rfl) (by rfl)) ?_) | (refine RS.q rfl (QO.loadOA ty23 (by rfl) (by assumption) (by rfl)) ?_)
      refine RS.q rfl (QO.fieldAddr fo26_0 (by rfl)) ?_
      first | (refine RS.q rfl (QO.loadB ty23 (by rfl) (by repeat (first | exact List.Mem.head _ | refine List.Mem.tail _ ?_)) (by rfl)) ?_) | (refine RS.q rfl (QO.loadA ty23 (by rfl) (by repeat (first | exact List.Mem.head _ | refine List.Mem.tail _ ?_)) (by rfl) (by rfl)) ?_) | (refine RS.q rfl (QO.loadOA ty23 (by rfl) (by assumption) (by rfl)) ?_)
      refine RS.call rfl (by rfl) ok42 (by rfl) (fun w ho => commonW X Y a b X2 Y2 a2 b2 0 0 0 0 false _ (cmT_F hB) hB (by omega) (by omega) (by omega) (by omega) (by omega) (by omega) (by omega) (by omega)) ?_
      rintro _ _ ⟨rfl, rfl⟩
      refine RS.q rfl (QO.move) ?_
      refine RS.q rfl (QO.extract (by rfl) (by rfl)) ?_
      refine RS.q rfl (QO.extract (by rfl) (by rfl)) ?_
      refine RS.alloc rfl ty23 ?_
      intro g9
      first | refine RS.storeB ty23 (by rfl) (by rfl) (by rfl) (by rfl) (by rfl) (by repeat (first | exact Upd.head | apply Upd.tail)) (by rfl) ?_ | refine RS.storeP ty23 (by rfl) (by rfl) (by rfl) (by rfl) (by rfl) (by repeat (first | exact Upd.head | apply Upd.tail)) (by rfl) ?_
      refine RS.q rfl (QO.assign) ?_
      refine RS.nil ?_
      refine thenC_n ?_
      refine CS.seq ?_
      refine CS.region ?_
      refine RS.q rfl (QO.move) ?_
      refine RS.q rfl (QO.not (by rfl)) ?_
      refine RS.nil ?_
      refine thenC_n ?_
      refine CS.condT (by rfl) rfl ?_
      refine CS.seq ?_
      refine CS.region ?_
      refine RS.q rfl (QO.build ty26 pl26 (by rfl)) ?_
      first | refine RS.storeB ty26 (by rfl) (by rfl) (by rfl) (by rfl) (by rfl) (by repeat (first | exact Upd.head | apply Upd.tail)) (by rfl) ?_ | refine RS.storeP ty26 (by rfl) (by rfl) (by rfl) (by rfl) (by rfl) (by repeat (first | exact Upd.head | apply Upd.tail)) (by rfl) ?_
      refine RS.q rfl (QO.assign) ?_
      refine RS.nil ?_
      refine thenC_n ?_
      refine CS.ret ?_
      refine thenC_r ?_
      refine retQ.mk (H' := []) (.inr rfl) (RVs.cellA ty26 (by rfl) (by repeat (first | exact List.Mem.head _ | refine List.Mem.tail _ ?_)) (by rfl) (RVs.tmp (by rfl) RVs.nil)) (List.nil_sublist _) ?_
      exact FrR.mkE (if_neg (by rw [hB]; decide)) (by decide)

set_option maxRecDepth 100000 in
theorem paste_T (X Y : Int) (a b : Nat) (A : Option Addr) (n c : Nat) (xs : List Nat) (X2 Y2 : Int) (a2 b2 : Nat) (A2 : Option Addr) (n2 c2 : Nat) (zs : List Nat) (W : World) (hn : xs.length = n) (hA : FS W A xs) (hN : n = 4 * (a * b)) (hc : n ≤ c) (hcm : c ≤ maxLen) (hX : -1048576 ≤ X ∧ X ≤ 1048576) (hY : -1048576 ≤ Y ∧ Y ≤ 1048576) (ha : 1 ≤ a ∧ a ≤ 256) (hb : 1 ≤ b ∧ b ≤ 256) (hn2 : zs.length = n2) (hA2 : FS W A2 zs) (hN2 : n2 = 4 * (a2 * b2)) (hX2 : -1048576 ≤ X2 ∧ X2 ≤ 1048576) (hY2 : -1048576 ≤ Y2 ∧ Y2 ≤ 1048576) (ha2 : 1 ≤ a2 ∧ a2 ≤ 256) (hb2 : 1 ≤ b2 ∧ b2 ≤ 256) (hfr : frErr X Y a b n = 0) (hfr2 : frErr X2 Y2 a2 b2 n2 = 0) (hB : cmB X Y a b X2 Y2 a2 b2 = true) (rx ry rw_ rh : Int) (hT : cmT X Y a b X2 Y2 a2 b2 = (rx, ry, rw_, rh)) : Fn_ Try.prog 104 #[.agg #[iv X, iv Y, iv (a : Int), iv (b : Int), .slice A n c], .agg #[iv X2, iv Y2, iv (a2 : Int), iv (b2 : Int), .slice A2 n2 c2]] W (fun v H => FrR (pstE X Y a b X2 Y2 a2 b2) X Y a b (pstV xs zs X Y a b X2 Y2 a2 b2) v H) := by
  have hab2 := Nat.mul_le_mul ha.2 hb.2
  refine Fn_.intro Try.func104 rfl rfl (by rfl) ?_
  refine CS.seq ?_
  refine CS.region ?_
  refine RS.box rfl (by rfl) (by rfl) ?_
  intro g2
  refine RS.box rfl (by rfl) (by rfl) ?_
  intro g3
  refine RS.alloc rfl ty26 ?_
  intro g4
  refine RS.q rfl (QO.assign) ?_
  refine RS.nil ?_
  refine thenC_n ?_
  refine CS.seq ?_
  refine CS.seq ?_
  refine CS.region ?_
  first | (refine RS.q rfl (QO.loadB ty26 (by rfl) (by repeat (first | exact List.Mem.head _ | refine List.Mem.tail _ ?_)) (by rfl)) ?_) | (refine RS.q rfl (QO.loadA ty26 (by rfl) (by repeat (first | exact List.Mem.head _ | refine List.Mem.tail _ ?_)) (by rfl) (by rfl)) ?_) | (refine RS.q rfl (QO.loadOA ty26 (by rfl) (by assumption) (by rfl)) ?_)
  first | (refine RS.q rfl (QO.loadB ty26 (by rfl) (by repeat (first | exact List.Mem.head _ | refine List.Mem.tail _ ?_)) (by rfl)) ?_) | (refine RS.q rfl (QO.loadA ty26 (by rfl) (by repeat (first | exact List.Mem.head _ | refine List.Mem.tail _ ?_)) (by rfl) (by rfl)) ?_) | (refine RS.q rfl (QO.loadOA ty26 (by rfl) (by assumption) (by rfl)) ?_)
  refine RS.buildSlice rfl Try.underlying127 ty26 (by decide) (by decide) (by rfl) (by rfl) ?_
  intro g15
  refine RS.q rfl (QO.lenS Try.underlying127 (by rfl)) ?_
  refine RS.q rfl (QO.move) ?_
  refine RS.nil ?_
  refine thenC_n ?_
  refine CS.block ?_
  refine CS.loop (X := Nat) (5 :: 7 :: 8 :: 17 :: 18 :: 19 :: 20 :: 21 :: 22 :: 23 :: 24 :: 25 :: 26 :: 27 :: []) (fun k => [(17, iv (k : Int))]) (fun k => [⟨g15, 26, [iv X, iv Y, iv (a : Int), iv (b : Int), .slice A n c, iv X2, iv Y2, iv (a2 : Int), iv (b2 : Int), .slice A2 n2 c2]⟩, ⟨g4, 26, [iv 0, iv 0, iv 0, iv 0, .slice none 0 0]⟩, ⟨g3, 26, [iv X2, iv Y2, iv (a2 : Int), iv (b2 : Int), .slice A2 n2 c2]⟩, ⟨g2, 26, [iv X, iv Y, iv (a : Int), iv (b : Int), .slice A n c]⟩]) (fun k => k ≤ 2) (fun k => 2 - k) 0 (by omega) ?_ ?_ ?_
  · exact (by repeat (first | exact kn_nil | refine kn_cons (by rfl) ?_))
  · exact (by repeat (first | exact List.Sublist.refl _ | exact List.nil_sublist _ | refine List.Sublist.cons_cons _ ?_ | refine List.Sublist.cons _ ?_ | exact Sbp.refl | exact Sbp.nil | refine Sbp.cons (by repeat (first | exact Rem.head | apply Rem.tail)) ?_ | exact Sbp.app | refine Sbp.skip ?_))
  · intro k gj2 hz
    refine CS.seq ?_
    refine CS.region ?_
    refine RS.q rfl (QO.lss (by rfl) (by rfl)) ?_
    refine RS.nil ?_
    refine thenC_n ?_
    refine CS.seq ?_
    refine CS.cond (by rfl) (fun hb0 => ?_) (fun hb0 => ?_)
    · have hb0p := of_decide_eq_true hb0
      refine CS.skip ?_
      refine thenC_n ?_
      refine CS.seq ?_
      refine CS.block ?_
      refine CS.seq ?_
      refine CS.region ?_
      refine RS.q rfl (QO.idx Try.underlying127 ty26 (by rfl) (by rfl) (by omega) (by omega)) ?_
      refine RS.q rfl (QO.loadA ty26 (by rfl) (by repeat (first | exact List.Mem.head _ | refine List.Mem.tail _ ?_)) (two_at3 X Y X2 Y2 a b a2 b2 A A2 n n2 c c2 k (by omega)) (by rfl)) ?_
      refine RS.alloc rfl ty26 ?_
      intro g7
      first | refine RS.storeB ty26 (by rfl) (by rfl) (by rfl) (by rfl) (by rfl) (by repeat (first | exact Upd.head | apply Upd.tail)) (by rfl) ?_ | refine RS.storeP ty26 (by rfl) (by rfl) (by rfl) (by rfl) (by rfl) (by repeat (first | exact Upd.head | apply Upd.tail)) (by rfl) ?_
      refine RS.nil ?_
      refine thenC_n ?_
      refine CS.seq ?_
      refine CS.region ?_
      first | (refine RS.q rfl (QO.loadB ty26 (by rfl) (by repeat (first | exact List.Mem.head _ | refine List.Mem.tail _ ?_)) (by rfl)) ?_) | (refine RS.q rfl (QO.loadA ty26 (by rfl) (by repeat (first | exact List.Mem.head _ | refine List.Mem.tail _ ?_)) (by rfl) (by rfl)) ?_) | (refine RS.q rfl (QO.loadOA ty26 (by rfl) (by assumption) (by rfl)) ?_)
      refine RS.call rfl (by rfl) ok116 (by rfl) (fun w ho => check _ _ _ _ _ _ _ _) ?_
      rintro _ _ ⟨rfl, rfl⟩
      refine RS.q rfl (QO.assign) ?_
      refine RS.nil ?_
      refine thenC_n ?_
      refine CS.seq ?_
      refine CS.region ?_
      refine RS.q rfl (QO.move) ?_
      refine RS.qv rfl (QO.neq (by rfl) (by rfl)) (congrArg Value.bool (show (frErr (f2 X X2 k) (f2 Y Y2 k) (f2 (a : Int) (a2 : Int) k) (f2 (b : Int) (b2 : Int) k) (f2 n n2 k) != 0) = false from by unfold f2; split <;> simp [hfr, hfr2])) ?_
      refine RS.nil ?_
      refine thenC_n ?_
      refine CS.condF (by rfl) rfl ?_
      refine CS.skip ?_
      refine blockC_n ?_
      refine thenC_n ?_
      refine CS.region ?_
      first | (refine RS.q rfl (QO.add (by rfl) (by rfl) (by omega) (by omega)) ?_) | (refine RS.q rfl (QO.ibin (by rfl) (by rfl) trivial) ?_)
      refine RS.q rfl (QO.move) ?_
      refine RS.nil ?_
      refine loopQ_n (by intro t ht; repeat (first | exact frame_puts ht (frame_mix ht) _ rfl | (refine frame_put rfl ht ?_) | (refine frame_puts ht ?_ _ rfl) | exact frame_mix ht | (refine frame_mix2 rfl ht ?_) | exact rfl)) ?_
      exact ⟨k + 1, by omega, by omega, (by repeat (first | exact kn_nil | refine kn_cons (by rfl) ?_)), (by repeat (first | exact List.Sublist.refl _ | exact List.nil_sublist _ | refine List.Sublist.cons_cons _ ?_ | refine List.Sublist.cons _ ?_ | exact Sbp.refl | exact Sbp.nil | refine Sbp.cons (by repeat (first | exact Rem.head | apply Rem.tail)) ?_ | exact Sbp.app | refine Sbp.skip ?_))⟩
    · have hb0p := of_decide_eq_false hb0
      refine CS.exit ?_
      refine thenC_x ?_
      refine loopQ_x ?_
      refine blockC_x ?_
      refine thenC_n ?_
      refine CS.seq ?_
      refine CS.seq ?_
      refine CS.region ?_
      refine RS.q rfl (QO.fieldAddr fo26_0 (by rfl)) ?_
      first | (refine RS.q rfl (QO.loadB ty23 (by rfl) (by repeat (first | exact List.Mem.head _ | refine List.Mem.tail _ ?_)) (by rfl)) ?_) | (refine RS.q rfl (QO.loadA ty23 (by rfl) (by repeat (first | exact List.Mem.head _ | refine List.Mem.tail _ ?_)) (by rfl) (by rfl)) ?_) | (refine RS.q rfl (QO.loadOA ty23 (by rfl) (by assumption) (by rfl)) ?_)
      refine RS.q rfl (QO.fieldAddr fo26_0 (by rfl)) ?_
      first | (refine RS.q rfl (QO.loadB ty23 (by rfl) (by repeat (first | exact List.Mem.head _ | refine List.Mem.tail _ ?_)) (by rfl)) ?_) | (refine RS.q rfl (QO.loadA ty23 (by rfl) (by repeat (first | exact List.Mem.head _ | refine List.Mem.tail _ ?_)) (by rfl) (by rfl)) ?_) | (refine RS.q rfl (QO.loadOA ty23 (by rfl) (by assumption) (by rfl)) ?_)
      refine RS.call rfl (by rfl) ok42 (by rfl) (fun w ho => commonW X Y a b X2 Y2 a2 b2 rx ry rw_ rh true _ hT hB (by omega) (by omega) (by omega) (by omega) (by omega) (by omega) (by omega) (by omega)) ?_
      rintro _ _ ⟨rfl, rfl⟩
      refine RS.q rfl (QO.move) ?_
      refine RS.q rfl (QO.extract (by rfl) (by rfl)) ?_
      refine RS.q rfl (QO.extract (by rfl) (by rfl)) ?_
      refine RS.alloc rfl ty23 ?_
      intro g9
      first | refine RS.storeB ty23 (by rfl) (by rfl) (by rfl) (by rfl) (by rfl) (by repeat (first | exact Upd.head | apply Upd.tail)) (by rfl) ?_ | refine RS.storeP ty23 (by rfl) (by rfl) (by rfl) (by rfl) (by rfl) (by repeat (first | exact Upd.head | apply Upd.tail)) (by rfl) ?_
      refine RS.q rfl (QO.assign) ?_
      refine RS.nil ?_
      refine thenC_n ?_
      refine CS.seq ?_
      refine CS.region ?_
      refine RS.q rfl (QO.move) ?_
      refine RS.q rfl (QO.not (by rfl)) ?_
      refine RS.nil ?_
      refine thenC_n ?_
      refine CS.condF (by rfl) rfl ?_
      refine CS.skip ?_
      refine thenC_n ?_
      refine CS.seq ?_
      refine CS.region ?_
      first | (refine RS.q rfl (QO.loadB ty26 (by rfl) (by repeat (first | exact List.Mem.head _ | refine List.Mem.tail _ ?_)) (by rfl)) ?_) | (refine RS.q rfl (QO.loadA ty26 (by rfl) (by repeat (first | exact List.Mem.head _ | refine List.Mem.tail _ ?_)) (by rfl) (by rfl)) ?_) | (refine RS.q rfl (QO.loadOA ty26 (by rfl) (by assumption) (by rfl)) ?_)
      refine RS.call rfl (by rfl) ok198 (by rfl) (fun w ho => clean_ X Y a b A n c xs _ hn (hA.own ho) hN hc hcm hX hY ha hb hfr) ?_
      rintro _ _ ⟨gc, rfl, rfl⟩
      refine RS.q rfl (QO.move) ?_
      refine RS.q rfl (QO.extract (by rfl) (by rfl)) ?_
      refine RS.q rfl (QO.extract (by rfl) (by rfl)) ?_
      refine RS.alloc rfl ty26 ?_
      intro g11
      first | refine RS.storeB ty26 (by rfl) (by rfl) (by rfl) (by rfl) (by rfl) (by repeat (first | exact Upd.head | apply Upd.tail)) (by rfl) ?_ | refine RS.storeP ty26 (by rfl) (by rfl) (by rfl) (by rfl) (by rfl) (by repeat (first | exact Upd.head | apply Upd.tail)) (by rfl) ?_
      refine RS.q rfl (QO.assign) ?_
      refine RS.nil ?_
      refine thenC_n ?_
      refine CS.seq ?_
      refine CS.region ?_
      first | (refine RS.q rfl (QO.loadB ty26 (by rfl) (by repeat (first | exact List.Mem.head _ | refine List.Mem.tail _ ?_)) (by rfl)) ?_) | (refine RS.q rfl (QO.loadA ty26 (by rfl) (by repeat (first | exact List.Mem.head _ | refine List.Mem.tail _ ?_)) (by rfl) (by rfl)) ?_) | (refine RS.q rfl (QO.loadOA ty26 (by rfl) (by assumption) (by rfl)) ?_)
      first | (refine RS.q rfl (QO.loadB ty26 (by rfl) (by repeat (first | exact List.Mem.head _ | refine List.Mem.tail _ ?_)) (by rfl)) ?_) | (refine RS.q rfl (QO.loadA ty26 (by rfl) (by repeat (first | exact List.Mem.head _ | refine List.Mem.tail _ ?_)) (by rfl) (by rfl)) ?_) | (refine RS.q rfl (QO.loadOA ty26 (by rfl) (by assumption) (by rfl)) ?_)
      refine RS.callH (⟨gc, 33, (xs.map cl).map flt⟩ :: ⟨g11, 26, [iv X, iv Y, iv (a : Int), iv (b : Int), .slice (some ⟨gc, 0, none⟩) n n]⟩ :: ⟨g4, 26, [iv 0, iv 0, iv 0, iv 0, .slice none 0 0]⟩ :: []) rfl (by rfl) ok196 (by rfl) (by repeat (first | exact List.Sublist.refl _ | exact List.nil_sublist _ | refine List.Sublist.cons_cons _ ?_ | refine List.Sublist.cons _ ?_ | exact Sbp.refl | exact Sbp.nil | refine Sbp.cons (by repeat (first | exact Rem.head | apply Rem.tail)) ?_ | exact Sbp.app | refine Sbp.skip ?_)) (fun w ho => copyInto X Y X2 Y2 a b a2 b2 gc n n n2 c2 A2 (xs.map cl) zs _ _ (by rw [List.length_map]; omega) hN hn2 hA2 hN2 hX hY ha hb hX2 hY2 ha2 hb2) ?_
      rintro _ _ ⟨rfl, rfl⟩
      refine RS.nil ?_
      refine thenC_n ?_
      refine CS.seq ?_
      refine CS.region ?_
      first | (refine RS.q rfl (QO.loadB ty26 (by rfl) (by repeat (first | exact List.Mem.head _ | refine List.Mem.tail _ ?_)) (by rfl)) ?_) | (refine RS.q rfl (QO.loadA ty26 (by rfl) (by repeat (first | exact List.Mem.head _ | refine List.Mem.tail _ ?_)) (by rfl) (by rfl)) ?_) | (refine RS.q rfl (QO.loadOA ty26 (by rfl) (by assumption) (by rfl)) ?_)
      first | refine RS.storeB ty26 (by rfl) (by rfl) (by rfl) (by rfl) (by rfl) (by repeat (first | exact Upd.head | apply Upd.tail)) (by rfl) ?_ | refine RS.storeP ty26 (by rfl) (by rfl) (by rfl) (by rfl) (by rfl) (by repeat (first | exact Upd.head | apply Upd.tail)) (by rfl) ?_
      refine RS.q rfl (QO.assign) ?_
      refine RS.nil ?_
      refine thenC_n ?_
      refine CS.ret ?_
      refine retQ.mk (H' := [⟨gc, 33, (pstV xs zs X Y a b X2 Y2 a2 b2).map flt⟩]) (.inr rfl) (RVs.cellA ty26 (by rfl) (by repeat (first | exact List.Mem.head _ | refine List.Mem.tail _ ?_)) (by rfl) (RVs.tmp (by rfl) RVs.nil)) (by rw [show pstV xs zs X Y a b X2 Y2 a2 b2 = overV (xs.map cl) zs X Y a b X2 Y2 a2 b2 from (overV_paste (by omega)).symm]; exact (by repeat (first | exact List.Sublist.refl _ | exact List.nil_sublist _ | refine List.Sublist.cons_cons _ ?_ | refine List.Sublist.cons _ ?_ | exact Sbp.refl | exact Sbp.nil | refine Sbp.cons (by repeat (first | exact Rem.head | apply Rem.tail)) ?_ | exact Sbp.app | refine Sbp.skip ?_))) ?_
      exact FrR.mk0 ((pstV_len ..).trans hN.symm) (by unfold maxLen; omega) (if_pos hB)

theorem paste_ (X Y : Int) (a b : Nat) (A : Option Addr) (n c : Nat) (xs : List Nat) (X2 Y2 : Int) (a2 b2 : Nat) (A2 : Option Addr) (n2 c2 : Nat) (zs : List Nat) (W : World) (hn : xs.length = n) (hA : FS W A xs) (hN : n = 4 * (a * b)) (hc : n ≤ c) (hcm : c ≤ maxLen) (hX : -1048576 ≤ X ∧ X ≤ 1048576) (hY : -1048576 ≤ Y ∧ Y ≤ 1048576) (ha : 1 ≤ a ∧ a ≤ 256) (hb : 1 ≤ b ∧ b ≤ 256) (hn2 : zs.length = n2) (hA2 : FS W A2 zs) (hN2 : n2 = 4 * (a2 * b2)) (hX2 : -1048576 ≤ X2 ∧ X2 ≤ 1048576) (hY2 : -1048576 ≤ Y2 ∧ Y2 ≤ 1048576) (ha2 : 1 ≤ a2 ∧ a2 ≤ 256) (hb2 : 1 ≤ b2 ∧ b2 ≤ 256) (hfr : frErr X Y a b n = 0) (hfr2 : frErr X2 Y2 a2 b2 n2 = 0) : Fn_ Try.prog 104 #[.agg #[iv X, iv Y, iv (a : Int), iv (b : Int), .slice A n c], .agg #[iv X2, iv Y2, iv (a2 : Int), iv (b2 : Int), .slice A2 n2 c2]] W (fun v H => FrR (pstE X Y a b X2 Y2 a2 b2) X Y a b (pstV xs zs X Y a b X2 Y2 a2 b2) v H) := by
  rcases Bool.eq_false_or_eq_true (cmB X Y a b X2 Y2 a2 b2) with h | h
  · obtain ⟨p, q, p2, q2, w, h', hT, mt⟩ := meets h
    exact paste_T X Y a b A n c xs X2 Y2 a2 b2 A2 n2 c2 zs W hn hA hN hc hcm hX hY ha hb hn2 hA2 hN2 hX2 hY2 ha2 hb2 hfr hfr2 h _ _ _ _ hT
  · exact paste_F X Y a b A n c xs X2 Y2 a2 b2 A2 n2 c2 zs W hn hA hN hc hcm hX hY ha hb hn2 hA2 hN2 hX2 hY2 ha2 hb2 hfr hfr2 h

theorem mtake_more {xs ys : List Nat} {k : Nat} (h : (xs.map cl).take k = (ys.map cl).take k) (h1 : k < xs.length) (h2 : k < ys.length) (he : ((cl xs[k] : Nat) : Int) = (cl ys[k] : Nat)) : (xs.map cl).take (k + 1) = (ys.map cl).take (k + 1) :=
  take_more h (by simpa using h1) (by simpa using h2) (by simpa using he)
theorem mdiffers {xs ys : List Nat} {k : Nat} (h1 : k < xs.length) (h2 : k < ys.length) (he : ((cl xs[k] : Nat) : Int) ≠ (cl ys[k] : Nat)) : ¬ xs.map cl = ys.map cl := fun h => he (by
  have h3 : (xs.map cl)[k]? = (ys.map cl)[k]? := by rw [h]
  simp only [List.getElem?_map, List.getElem?_eq_getElem h1, List.getElem?_eq_getElem h2, Option.map_some, Option.some.injEq] at h3
  exact congrArg Nat.cast h3)
/-- are two frames the same -/
def sameB (x y wi he x' y' wi' he' : Int) (xs xs' : List Nat) : Bool := decide ([x, y, wi, he] = [x', y', wi', he'] ∧ xs.map cl = xs'.map cl)

set_option maxRecDepth 100000 in
theorem same_ (x y wi he x' y' wi' he' : Int) (A A' : Option Addr) (n n' c c' : Nat) (xs xs' : List Nat) (W : World) (hn : xs.length = n) (hn' : xs'.length = n') (hA : FS W A xs) (hA' : FS W A' xs') (hm : n ≤ maxLen) : Fn_ Try.prog 105 #[.agg #[iv x, iv y, iv wi, iv he, .slice A n c], .agg #[iv x', iv y', iv wi', iv he', .slice A' n' c']] W (fun v H => v = .bool (sameB x y wi he x' y' wi' he' xs xs') ∧ H = []) := by
  unfold maxLen at hm
  refine Fn_.intro Try.func105 rfl rfl (by rfl) ?_
  refine CS.seq ?_
  refine CS.region ?_
  refine RS.box rfl (by rfl) (by rfl) ?_
  intro g2
  refine RS.box rfl (by rfl) (by rfl) ?_
  intro g3
  refine RS.q rfl (QO.assign) ?_
  refine RS.nil ?_
  refine thenC_n ?_
  refine CS.seq ?_
  refine CS.seq ?_
  refine CS.region ?_
  refine RS.q rfl (QO.fieldAddr fo26_0 (by rfl)) ?_
  first | (refine RS.q rfl (QO.loadB ty23 (by rfl) (by repeat (first | exact List.Mem.head _ | refine List.Mem.tail _ ?_)) (by rfl)) ?_) | (refine RS.q rfl (QO.loadA ty23 (by rfl) (by repeat (first | exact List.Mem.head _ | refine List.Mem.tail _ ?_)) (by rfl) (by rfl)) ?_) | (refine RS.q rfl (QO.loadOA ty23 (by rfl) (by assumption) (by rfl)) ?_)
  refine RS.q rfl (QO.fieldAddr fo26_0 (by rfl)) ?_
  first | (refine RS.q rfl (QO.loadB ty23 (by rfl) (by repeat (first | exact List.Mem.head _ | refine List.Mem.tail _ ?_)) (by rfl)) ?_) | (refine RS.q rfl (QO.loadA ty23 (by rfl) (by repeat (first | exact List.Mem.head _ | refine List.Mem.tail _ ?_)) (by rfl) (by rfl)) ?_) | (refine RS.q rfl (QO.loadOA ty23 (by rfl) (by assumption) (by rfl)) ?_)
  first | (refine RS.q rfl (QO.sneq4 eqt23 (by rfl) (by rfl)) ?_) | (refine RS.q rfl (QO.sneq eqt23 (by decide) (by rfl) (by rfl) (by rfl) (by rfl)) ?_)
  refine RS.q rfl (QO.move) ?_
  refine RS.split (dj := 11) (by rfl) (fun hb0 => ?_) (fun hb0 => ?_)
  · have hb0p := bne_iff_ne.1 hb0
    refine RS.off (dj := 11) rfl (.inl (congrArg Value.bool hb0)) (fun _ => rfl) rfl ?_
    refine RS.off (dj := 11) rfl (.inl (congrArg Value.bool hb0)) (fun _ => rfl) rfl ?_
    refine RS.off (dj := 11) rfl (.inl (congrArg Value.bool hb0)) (fun _ => rfl) rfl ?_
    refine RS.off (dj := 11) rfl (.inl (congrArg Value.bool hb0)) (fun _ => rfl) rfl ?_
    refine RS.off (dj := 11) rfl (.inl (congrArg Value.bool hb0)) (fun _ => rfl) rfl ?_
    refine RS.off (dj := 11) rfl (.inl (congrArg Value.bool hb0)) (fun _ => rfl) rfl ?_
    refine RS.off (dj := 11) rfl (.inl (congrArg Value.bool hb0)) (fun _ => rfl) rfl ?_
    refine RS.q rfl (QO.pickT (by rfl) hb0 (by rfl)) ?_
    refine RS.nil ?_
    refine thenC_n ?_
    refine CS.condT (by rfl) rfl ?_
    refine CS.seq ?_
    refine CS.region ?_
    refine RS.q rfl (QO.assign) ?_
    refine RS.nil ?_
    refine thenC_n ?_
    refine CS.ret ?_
    refine thenC_r ?_
    refine retQ.mk (H' := []) (.inr rfl) (RVs.tmp (by rfl) RVs.nil) (List.nil_sublist _) ?_
    exact ⟨congrArg Value.bool (decide_eq_false fun h => hb0p h.1).symm, rfl⟩
  · have hb0p := of_bne_false hb0
    refine RS.on (dj := 11) rfl (congrArg Value.bool hb0) ?_
    refine RS.q rfl (QO.fieldAddr fo26_1 (by rfl)) ?_
    refine RS.on (dj := 11) rfl (congrArg Value.bool hb0) ?_
    first | (refine RS.q rfl (QO.load ty24 (by rfl) (by repeat (first | exact List.Mem.head _ | refine List.Mem.tail _ ?_)) (by rfl)) ?_) | (refine RS.q rfl (QO.loadO ty24 (by rfl) (by assumption)) ?_) | (refine RS.q rfl (QO.load ty24 (by rfl) (by repeat (first | exact List.Mem.head _ | refine List.Mem.tail _ ?_)) (by assumption)) ?_)
    refine RS.on (dj := 11) rfl (congrArg Value.bool hb0) ?_
    refine RS.q rfl (QO.lenS Try.underlying24 (by rfl)) ?_
    refine RS.on (dj := 11) rfl (congrArg Value.bool hb0) ?_
    refine RS.q rfl (QO.fieldAddr fo26_1 (by rfl)) ?_
    refine RS.on (dj := 11) rfl (congrArg Value.bool hb0) ?_
    first | (refine RS.q rfl (QO.load ty24 (by rfl) (by repeat (first | exact List.Mem.head _ | refine List.Mem.tail _ ?_)) (by rfl)) ?_) | (refine RS.q rfl (QO.loadO ty24 (by rfl) (by assumption)) ?_) | (refine RS.q rfl (QO.load ty24 (by rfl) (by repeat (first | exact List.Mem.head _ | refine List.Mem.tail _ ?_)) (by assumption)) ?_)
    refine RS.on (dj := 11) rfl (congrArg Value.bool hb0) ?_
    refine RS.q rfl (QO.lenS Try.underlying24 (by rfl)) ?_
    refine RS.on (dj := 11) rfl (congrArg Value.bool hb0) ?_
    refine RS.q rfl (QO.neq (by rfl) (by rfl)) ?_
    refine RS.q rfl (QO.pickF (by rfl) hb0 (by rfl)) ?_
    refine RS.nil ?_
    refine thenC_n ?_
    refine CS.cond (by rfl) (fun hb1 => ?_) (fun hb1 => ?_)
    · have hb1p := bne_iff_ne.1 hb1
      refine CS.seq ?_
      refine CS.region ?_
      refine RS.q rfl (QO.assign) ?_
      refine RS.nil ?_
      refine thenC_n ?_
      refine CS.ret ?_
      refine thenC_r ?_
      refine retQ.mk (H' := []) (.inr rfl) (RVs.tmp (by rfl) RVs.nil) (List.nil_sublist _) ?_
      exact ⟨congrArg Value.bool (decide_eq_false fun h => by have h9 := congrArg List.length h.2; simp only [List.length_map] at h9; omega).symm, rfl⟩
    · have hb1p := of_bne_false hb1
      refine CS.skip ?_
      refine thenC_n ?_
      refine CS.seq ?_
      refine CS.seq ?_
      refine CS.region ?_
      refine RS.q rfl (QO.fieldAddr fo26_1 (by rfl)) ?_
      first | (refine RS.q rfl (QO.load ty24 (by rfl) (by repeat (first | exact List.Mem.head _ | refine List.Mem.tail _ ?_)) (by rfl)) ?_) | (refine RS.q rfl (QO.loadO ty24 (by rfl) (by assumption)) ?_) | (refine RS.q rfl (QO.load ty24 (by rfl) (by repeat (first | exact List.Mem.head _ | refine List.Mem.tail _ ?_)) (by assumption)) ?_)
      refine RS.q rfl (QO.lenS Try.underlying24 (by rfl)) ?_
      refine RS.q rfl (QO.move) ?_
      refine RS.nil ?_
      refine thenC_n ?_
      refine CS.block ?_
      have hll : n = n' := by have := of_bne_false hb1; omega
      refine CS.loop (X := Nat) (4 :: 5 :: 23 :: 24 :: 25 :: 26 :: 27 :: 28 :: 29 :: 30 :: 31 :: 32 :: 33 :: 34 :: 35 :: 36 :: 37 :: 38 :: 39 :: []) (fun k => [(23, iv (k : Int))]) (fun k => [⟨g3, 26, [iv x', iv y', iv wi', iv he', .slice A' n' c']⟩, ⟨g2, 26, [iv x, iv y, iv wi, iv he, .slice A n c]⟩]) (fun k => k ≤ n ∧ (xs.map cl).take k = (xs'.map cl).take k) (fun k => n - k) 0 ⟨Nat.zero_le _, rfl⟩ ?_ ?_ ?_
      · exact (by repeat (first | exact kn_nil | refine kn_cons (by rfl) ?_))
      · exact (by repeat (first | exact List.Sublist.refl _ | exact List.nil_sublist _ | refine List.Sublist.cons_cons _ ?_ | refine List.Sublist.cons _ ?_ | exact Sbp.refl | exact Sbp.nil | refine Sbp.cons (by repeat (first | exact Rem.head | apply Rem.tail)) ?_ | exact Sbp.app | refine Sbp.skip ?_))
      · intro k gj4 hz
        obtain ⟨hk, hz⟩ := hz
        refine CS.seq ?_
        refine CS.region ?_
        refine RS.q rfl (QO.lss (by rfl) (by rfl)) ?_
        refine RS.nil ?_
        refine thenC_n ?_
        refine CS.seq ?_
        refine CS.cond (by rfl) (fun hb2 => ?_) (fun hb2 => ?_)
        · have hb2p := of_decide_eq_true hb2
          refine CS.skip ?_
          refine thenC_n ?_
          refine CS.seq ?_
          refine CS.block ?_
          refine CS.seq ?_
          refine CS.region ?_
          refine RS.q rfl (QO.move) ?_
          refine RS.q rfl (QO.assign) ?_
          refine RS.nil ?_
          refine thenC_n ?_
          refine CS.seq ?_
          refine CS.draw 13 rfl (by kernel_rfl) (by kernel_rfl) ?_
          have hlt : k < xs.length := by omega
          have hlt' : k < xs'.length := by omega
          obtain ⟨bA, oA, rfl, hcell⟩ := hA (by omega)
          obtain ⟨bA', oA', rfl, hcell'⟩ := hA' (by omega)
          refine RT.take (i := 0) rfl (by kernel_rfl) rfl (QO.fieldAddr fo26_1 (by rfl)) ?_
          first | (refine RT.take (i := 1) rfl (by kernel_rfl) rfl (QO.load ty24 (by rfl) (by repeat (first | exact List.Mem.head _ | refine List.Mem.tail _ ?_)) (by rfl)) ?_) | (refine RT.take (i := 1) rfl (by kernel_rfl) rfl (QO.loadO ty24 (by rfl) (by assumption)) ?_) | (refine RT.take (i := 1) rfl (by kernel_rfl) rfl (QO.load ty24 (by rfl) (by repeat (first | exact List.Mem.head _ | refine List.Mem.tail _ ?_)) (by assumption)) ?_)
          refine RT.take (i := 2) rfl (by kernel_rfl) rfl (QO.move) ?_
          first | (refine RT.take (i := 3) rfl (by kernel_rfl) rfl (QO.idx0 Try.underlying24 ty33 (by rfl) (by rfl) (by rfl) (by omega)) ?_) | (refine RT.take (i := 3) rfl (by kernel_rfl) rfl (QO.idxn Try.underlying24 ty33 (by rfl) (by rfl) (by rfl) (by omega)) ?_) | (refine RT.take (i := 3) rfl (by kernel_rfl) rfl (QO.idx1 Try.underlying24 ty33 (by rfl) (by rfl) (by omega) (by omega)) ?_)
          refine RT.take (i := 4) rfl (by kernel_rfl) rfl (QO.loadO ty33 (by rfl) (hcell _ _ (List.getElem?_eq_getElem hlt))) ?_
          refine RT.take (i := 6) rfl (by kernel_rfl) rfl (QO.fieldAddr fo26_1 (by rfl)) ?_
          first | (refine RT.take (i := 7) rfl (by kernel_rfl) rfl (QO.load ty24 (by rfl) (by repeat (first | exact List.Mem.head _ | refine List.Mem.tail _ ?_)) (by rfl)) ?_) | (refine RT.take (i := 7) rfl (by kernel_rfl) rfl (QO.loadO ty24 (by rfl) (by assumption)) ?_) | (refine RT.take (i := 7) rfl (by kernel_rfl) rfl (QO.load ty24 (by rfl) (by repeat (first | exact List.Mem.head _ | refine List.Mem.tail _ ?_)) (by assumption)) ?_)
          refine RT.take (i := 8) rfl (by kernel_rfl) rfl (QO.move) ?_
          first | (refine RT.take (i := 9) rfl (by kernel_rfl) rfl (QO.idx0 Try.underlying24 ty33 (by rfl) (by rfl) (by rfl) (by omega)) ?_) | (refine RT.take (i := 9) rfl (by kernel_rfl) rfl (QO.idxn Try.underlying24 ty33 (by rfl) (by rfl) (by rfl) (by omega)) ?_) | (refine RT.take (i := 9) rfl (by kernel_rfl) rfl (QO.idx1 Try.underlying24 ty33 (by rfl) (by rfl) (by omega) (by omega)) ?_)
          refine RT.take (i := 10) rfl (by kernel_rfl) rfl (QO.loadO ty33 (by rfl) (hcell' _ _ (List.getElem?_eq_getElem hlt'))) ?_
          refine RT.one (i := 5) (by kernel_rfl) rfl rfl ?_
          refine RS.call rfl (by rfl) ok110 (by rfl) (fun w ho => bits _ _) ?_
          rintro _ _ ⟨rfl, rfl⟩
          refine RS.nil ⟨(by repeat (first | exact List.Sublist.refl _ | exact List.nil_sublist _ | refine List.Sublist.cons_cons _ ?_ | refine List.Sublist.cons _ ?_ | exact Sbp.refl | exact Sbp.nil | refine Sbp.cons (by repeat (first | exact Rem.head | apply Rem.tail)) ?_ | exact Sbp.app | refine Sbp.skip ?_)), ?_⟩
          refine RT.one (i := 11) (by kernel_rfl) rfl rfl ?_
          refine RS.call rfl (by rfl) ok110 (by rfl) (fun w ho => bits _ _) ?_
          rintro _ _ ⟨rfl, rfl⟩
          refine RS.nil ⟨(by repeat (first | exact List.Sublist.refl _ | exact List.nil_sublist _ | refine List.Sublist.cons_cons _ ?_ | refine List.Sublist.cons _ ?_ | exact Sbp.refl | exact Sbp.nil | refine Sbp.cons (by repeat (first | exact Rem.head | apply Rem.tail)) ?_ | exact Sbp.app | refine Sbp.skip ?_)), ?_⟩
          refine RT.take (i := 12) rfl (by kernel_rfl) rfl (QO.neq (by rfl) (by rfl)) ?_
          refine RT.done (by kernel_rfl) ?_
          refine thenC_n ?_
          refine CS.cond (by rfl) (fun hb3 => ?_) (fun hb3 => ?_)
          · have hb3p := bne_iff_ne.1 hb3
            refine CS.seq ?_
            refine CS.region ?_
            refine RS.q rfl (QO.assign) ?_
            refine RS.nil ?_
            refine thenC_n ?_
            refine CS.ret ?_
            refine blockC_r ?_
            refine thenC_r ?_
            refine loopQ_r ?_
            refine blockC_r ?_
            refine thenC_r ?_
            refine retQ.mk (H' := []) (.inr rfl) (RVs.tmp (by rfl) RVs.nil) (List.nil_sublist _) ?_
            exact ⟨congrArg Value.bool (decide_eq_false fun h => mdiffers hlt hlt' hb3p h.2).symm, rfl⟩
          · have hb3p := of_bne_false hb3
            refine CS.skip ?_
            refine blockC_n ?_
            refine thenC_n ?_
            refine CS.region ?_
            first | (refine RS.q rfl (QO.add (by rfl) (by rfl) (by omega) (by omega)) ?_) | (refine RS.q rfl (QO.ibin (by rfl) (by rfl) trivial) ?_)
            refine RS.q rfl (QO.move) ?_
            refine RS.nil ?_
            refine loopQ_n (by intro t ht; repeat (first | exact frame_puts ht (frame_mix ht) _ rfl | (refine frame_put rfl ht ?_) | (refine frame_puts ht ?_ _ rfl) | exact frame_mix ht | (refine frame_mix2 rfl ht ?_) | exact rfl)) ?_
            exact ⟨k + 1, ⟨by omega, mtake_more hz hlt hlt' (of_bne_false hb3)⟩, by omega, (by repeat (first | exact kn_nil | refine kn_cons (by rfl) ?_)), (by repeat (first | exact List.Sublist.refl _ | exact List.nil_sublist _ | refine List.Sublist.cons_cons _ ?_ | refine List.Sublist.cons _ ?_ | exact Sbp.refl | exact Sbp.nil | refine Sbp.cons (by repeat (first | exact Rem.head | apply Rem.tail)) ?_ | exact Sbp.app | refine Sbp.skip ?_))⟩
        · have hb2p := of_decide_eq_false hb2
          refine CS.exit ?_
          refine thenC_x ?_
          refine loopQ_x ?_
          refine blockC_x ?_
          refine thenC_n ?_
          refine CS.seq ?_
          refine CS.region ?_
          refine RS.q rfl (QO.assign) ?_
          refine RS.nil ?_
          refine thenC_n ?_
          refine CS.ret ?_
          refine retQ.mk (H' := []) (.inr rfl) (RVs.tmp (by rfl) RVs.nil) (List.nil_sublist _) ?_
          have hkn : k = n := by omega
          exact ⟨congrArg Value.bool (decide_eq_true ⟨of_bne_false hb0, take_whole hz (by rw [List.length_map]; omega) (by rw [List.length_map]; omega)⟩).symm, rfl⟩

set_option maxRecDepth 100000 in
theorem rsame (x y wi he x' y' wi' he' : Int) (A A' : Option Addr) (n n' c c' : Nat) (xs xs' : List Nat) (W : World) (hn : xs.length = n) (hn' : xs'.length = n') (hA : FS W A xs) (hA' : FS W A' xs') (hm : n ≤ maxLen) : Fn_ Try.prog 106 #[.agg #[iv x, iv y, iv wi, iv he, .slice A n c], .agg #[iv x', iv y', iv wi', iv he', .slice A' n' c']] W (fun v H => v = .bool (sameB x y wi he x' y' wi' he' xs xs') ∧ H = []) := by
  unfold maxLen at hm
  refine Fn_.intro Try.func106 rfl rfl (by rfl) ?_
  refine CS.seq ?_
  refine CS.region ?_
  refine RS.box rfl (by rfl) (by rfl) ?_
  intro g2
  refine RS.box rfl (by rfl) (by rfl) ?_
  intro g3
  refine RS.q rfl (QO.assign) ?_
  refine RS.nil ?_
  refine thenC_n ?_
  refine CS.seq ?_
  refine CS.seq ?_
  refine CS.region ?_
  refine RS.q rfl (QO.fieldAddr fo26_0 (by rfl)) ?_
  first | (refine RS.q rfl (QO.loadB ty23 (by rfl) (by repeat (first | exact List.Mem.head _ | refine List.Mem.tail _ ?_)) (by rfl)) ?_) | (refine RS.q rfl (QO.loadA ty23 (by rfl) (by repeat (first | exact List.Mem.head _ | refine List.Mem.tail _ ?_)) (by rfl) (by rfl)) ?_) | (refine RS.q rfl (QO.loadOA ty23 (by rfl) (by assumption) (by rfl)) ?_)
  refine RS.q rfl (QO.fieldAddr fo26_0 (by rfl)) ?_
  first | (refine RS.q rfl (QO.loadB ty23 (by rfl) (by repeat (first | exact List.Mem.head _ | refine List.Mem.tail _ ?_)) (by rfl)) ?_) | (refine RS.q rfl (QO.loadA ty23 (by rfl) (by repeat (first | exact List.Mem.head _ | refine List.Mem.tail _ ?_)) (by rfl) (by rfl)) ?_) | (refine RS.q rfl (QO.loadOA ty23 (by rfl) (by assumption) (by rfl)) ?_)
  first | (refine RS.q rfl (QO.sneq4 eqt23 (by rfl) (by rfl)) ?_) | (refine RS.q rfl (QO.sneq eqt23 (by decide) (by rfl) (by rfl) (by rfl) (by rfl)) ?_)
  refine RS.q rfl (QO.move) ?_
  refine RS.split (dj := 11) (by rfl) (fun hb0 => ?_) (fun hb0 => ?_)
  · have hb0p := bne_iff_ne.1 hb0
    refine RS.off (dj := 11) rfl (.inl (congrArg Value.bool hb0)) (fun _ => rfl) rfl ?_
    refine RS.off (dj := 11) rfl (.inl (congrArg Value.bool hb0)) (fun _ => rfl) rfl ?_
    refine RS.off (dj := 11) rfl (.inl (congrArg Value.bool hb0)) (fun _ => rfl) rfl ?_
    refine RS.off (dj := 11) rfl (.inl (congrArg Value.bool hb0)) (fun _ => rfl) rfl ?_
    refine RS.off (dj := 11) rfl (.inl (congrArg Value.bool hb0)) (fun _ => rfl) rfl ?_
    refine RS.off (dj := 11) rfl (.inl (congrArg Value.bool hb0)) (fun _ => rfl) rfl ?_
    refine RS.off (dj := 11) rfl (.inl (congrArg Value.bool hb0)) (fun _ => rfl) rfl ?_
    refine RS.q rfl (QO.pickT (by rfl) hb0 (by rfl)) ?_
    refine RS.nil ?_
    refine thenC_n ?_
    refine CS.condT (by rfl) rfl ?_
    refine CS.seq ?_
    refine CS.region ?_
    refine RS.q rfl (QO.assign) ?_
    refine RS.nil ?_
    refine thenC_n ?_
    refine CS.ret ?_
    refine thenC_r ?_
    refine retQ.mk (H' := []) (.inr rfl) (RVs.tmp (by rfl) RVs.nil) (List.nil_sublist _) ?_
    exact ⟨congrArg Value.bool (decide_eq_false fun h => hb0p h.1).symm, rfl⟩
  · have hb0p := of_bne_false hb0
    refine RS.on (dj := 11) rfl (congrArg Value.bool hb0) ?_
    refine RS.q rfl (QO.fieldAddr fo26_1 (by rfl)) ?_
    refine RS.on (dj := 11) rfl (congrArg Value.bool hb0) ?_
    first | (refine RS.q rfl (QO.load ty24 (by rfl) (by repeat (first | exact List.Mem.head _ | refine List.Mem.tail _ ?_)) (by rfl)) ?_) | (refine RS.q rfl (QO.loadO ty24 (by rfl) (by assumption)) ?_) | (refine RS.q rfl (QO.load ty24 (by rfl) (by repeat (first | exact List.Mem.head _ | refine List.Mem.tail _ ?_)) (by assumption)) ?_)
    refine RS.on (dj := 11) rfl (congrArg Value.bool hb0) ?_
    refine RS.q rfl (QO.lenS Try.underlying24 (by rfl)) ?_
    refine RS.on (dj := 11) rfl (congrArg Value.bool hb0) ?_
    refine RS.q rfl (QO.fieldAddr fo26_1 (by rfl)) ?_
    refine RS.on (dj := 11) rfl (congrArg Value.bool hb0) ?_
    first | (refine RS.q rfl (QO.load ty24 (by rfl) (by repeat (first | exact List.Mem.head _ | refine List.Mem.tail _ ?_)) (by rfl)) ?_) | (refine RS.q rfl (QO.loadO ty24 (by rfl) (by assumption)) ?_) | (refine RS.q rfl (QO.load ty24 (by rfl) (by repeat (first | exact List.Mem.head _ | refine List.Mem.tail _ ?_)) (by assumption)) ?_)
    refine RS.on (dj := 11) rfl (congrArg Value.bool hb0) ?_
    refine RS.q rfl (QO.lenS Try.underlying24 (by rfl)) ?_
    refine RS.on (dj := 11) rfl (congrArg Value.bool hb0) ?_
    refine RS.q rfl (QO.neq (by rfl) (by rfl)) ?_
    refine RS.q rfl (QO.pickF (by rfl) hb0 (by rfl)) ?_
    refine RS.nil ?_
    refine thenC_n ?_
    refine CS.cond (by rfl) (fun hb1 => ?_) (fun hb1 => ?_)
    · have hb1p := bne_iff_ne.1 hb1
      refine CS.seq ?_
      refine CS.region ?_
      refine RS.q rfl (QO.assign) ?_
      refine RS.nil ?_
      refine thenC_n ?_
      refine CS.ret ?_
      refine thenC_r ?_
      refine retQ.mk (H' := []) (.inr rfl) (RVs.tmp (by rfl) RVs.nil) (List.nil_sublist _) ?_
      exact ⟨congrArg Value.bool (decide_eq_false fun h => by have h9 := congrArg List.length h.2; simp only [List.length_map] at h9; omega).symm, rfl⟩
    · have hb1p := of_bne_false hb1
      refine CS.skip ?_
      refine thenC_n ?_
      refine CS.seq ?_
      refine CS.seq ?_
      refine CS.region ?_
      refine RS.q rfl (QO.fieldAddr fo26_1 (by rfl)) ?_
      first | (refine RS.q rfl (QO.load ty24 (by rfl) (by repeat (first | exact List.Mem.head _ | refine List.Mem.tail _ ?_)) (by rfl)) ?_) | (refine RS.q rfl (QO.loadO ty24 (by rfl) (by assumption)) ?_) | (refine RS.q rfl (QO.load ty24 (by rfl) (by repeat (first | exact List.Mem.head _ | refine List.Mem.tail _ ?_)) (by assumption)) ?_)
      refine RS.q rfl (QO.lenS Try.underlying24 (by rfl)) ?_
      refine RS.q rfl (QO.move) ?_
      refine RS.nil ?_
      refine thenC_n ?_
      refine CS.block ?_
      have hll : n = n' := by have := of_bne_false hb1; omega
      refine CS.loop (X := Nat) (4 :: 5 :: 23 :: 24 :: 25 :: 26 :: 27 :: 28 :: 29 :: 30 :: 31 :: 32 :: 33 :: 34 :: 35 :: 36 :: 37 :: 38 :: []) (fun k => [(23, iv (k : Int))]) (fun k => [⟨g3, 26, [iv x', iv y', iv wi', iv he', .slice A' n' c']⟩, ⟨g2, 26, [iv x, iv y, iv wi, iv he, .slice A n c]⟩]) (fun k => k ≤ n ∧ (xs.map cl).take k = (xs'.map cl).take k) (fun k => n - k) 0 ⟨Nat.zero_le _, rfl⟩ ?_ ?_ ?_
      · exact (by repeat (first | exact kn_nil | refine kn_cons (by rfl) ?_))
      · exact (by repeat (first | exact List.Sublist.refl _ | exact List.nil_sublist _ | refine List.Sublist.cons_cons _ ?_ | refine List.Sublist.cons _ ?_ | exact Sbp.refl | exact Sbp.nil | refine Sbp.cons (by repeat (first | exact Rem.head | apply Rem.tail)) ?_ | exact Sbp.app | refine Sbp.skip ?_))
      · intro k gj4 hz
        obtain ⟨hk, hz⟩ := hz
        refine CS.seq ?_
        refine CS.region ?_
        refine RS.q rfl (QO.lss (by rfl) (by rfl)) ?_
        refine RS.nil ?_
        refine thenC_n ?_
        refine CS.seq ?_
        refine CS.cond (by rfl) (fun hb2 => ?_) (fun hb2 => ?_)
        · have hb2p := of_decide_eq_true hb2
          refine CS.skip ?_
          refine thenC_n ?_
          refine CS.seq ?_
          refine CS.block ?_
          refine CS.seq ?_
          refine CS.region ?_
          refine RS.q rfl (QO.move) ?_
          refine RS.q rfl (QO.assign) ?_
          refine RS.nil ?_
          refine thenC_n ?_
          refine CS.seq ?_
          refine CS.draw 12 rfl (by kernel_rfl) (by kernel_rfl) ?_
          have hlt : k < xs.length := by omega
          have hlt' : k < xs'.length := by omega
          obtain ⟨bA, oA, rfl, hcell⟩ := hA (by omega)
          obtain ⟨bA', oA', rfl, hcell'⟩ := hA' (by omega)
          refine RT.take (i := 0) rfl (by kernel_rfl) rfl (QO.fieldAddr fo26_1 (by rfl)) ?_
          first | (refine RT.take (i := 1) rfl (by kernel_rfl) rfl (QO.load ty24 (by rfl) (by repeat (first | exact List.Mem.head _ | refine List.Mem.tail _ ?_)) (by rfl)) ?_) | (refine RT.take (i := 1) rfl (by kernel_rfl) rfl (QO.loadO ty24 (by rfl) (by assumption)) ?_) | (refine RT.take (i := 1) rfl (by kernel_rfl) rfl (QO.load ty24 (by rfl) (by repeat (first | exact List.Mem.head _ | refine List.Mem.tail _ ?_)) (by assumption)) ?_)
          refine RT.take (i := 2) rfl (by kernel_rfl) rfl (QO.move) ?_
          first | (refine RT.take (i := 3) rfl (by kernel_rfl) rfl (QO.idx0 Try.underlying24 ty33 (by rfl) (by rfl) (by rfl) (by omega)) ?_) | (refine RT.take (i := 3) rfl (by kernel_rfl) rfl (QO.idxn Try.underlying24 ty33 (by rfl) (by rfl) (by rfl) (by omega)) ?_) | (refine RT.take (i := 3) rfl (by kernel_rfl) rfl (QO.idx1 Try.underlying24 ty33 (by rfl) (by rfl) (by omega) (by omega)) ?_)
          refine RT.take (i := 4) rfl (by kernel_rfl) rfl (QO.loadO ty33 (by rfl) (hcell _ _ (List.getElem?_eq_getElem hlt))) ?_
          refine RT.take (i := 5) rfl (by kernel_rfl) rfl (QO.fieldAddr fo26_1 (by rfl)) ?_
          first | (refine RT.take (i := 6) rfl (by kernel_rfl) rfl (QO.load ty24 (by rfl) (by repeat (first | exact List.Mem.head _ | refine List.Mem.tail _ ?_)) (by rfl)) ?_) | (refine RT.take (i := 6) rfl (by kernel_rfl) rfl (QO.loadO ty24 (by rfl) (by assumption)) ?_) | (refine RT.take (i := 6) rfl (by kernel_rfl) rfl (QO.load ty24 (by rfl) (by repeat (first | exact List.Mem.head _ | refine List.Mem.tail _ ?_)) (by assumption)) ?_)
          refine RT.take (i := 7) rfl (by kernel_rfl) rfl (QO.move) ?_
          first | (refine RT.take (i := 8) rfl (by kernel_rfl) rfl (QO.idx0 Try.underlying24 ty33 (by rfl) (by rfl) (by rfl) (by omega)) ?_) | (refine RT.take (i := 8) rfl (by kernel_rfl) rfl (QO.idxn Try.underlying24 ty33 (by rfl) (by rfl) (by rfl) (by omega)) ?_) | (refine RT.take (i := 8) rfl (by kernel_rfl) rfl (QO.idx1 Try.underlying24 ty33 (by rfl) (by rfl) (by omega) (by omega)) ?_)
          refine RT.take (i := 9) rfl (by kernel_rfl) rfl (QO.loadO ty33 (by rfl) (hcell' _ _ (List.getElem?_eq_getElem hlt'))) ?_
          refine RT.one (i := 10) (by kernel_rfl) rfl rfl ?_
          refine RS.call rfl (by rfl) ok24 (by rfl) (fun w ho => bit _ _ _) ?_
          rintro _ _ ⟨rfl, rfl⟩
          refine RS.nil ⟨(by repeat (first | exact List.Sublist.refl _ | exact List.nil_sublist _ | refine List.Sublist.cons_cons _ ?_ | refine List.Sublist.cons _ ?_ | exact Sbp.refl | exact Sbp.nil | refine Sbp.cons (by repeat (first | exact Rem.head | apply Rem.tail)) ?_ | exact Sbp.app | refine Sbp.skip ?_)), ?_⟩
          refine RT.take (i := 11) rfl (by kernel_rfl) rfl (QO.not (by rfl)) ?_
          refine RT.done (by kernel_rfl) ?_
          refine thenC_n ?_
          refine CS.cond (by rfl) (fun hb3 => ?_) (fun hb3 => ?_)
          · have hb3p := Eq.mp (Bool.not_eq_true' _) hb3
            refine CS.seq ?_
            refine CS.region ?_
            refine RS.q rfl (QO.assign) ?_
            refine RS.nil ?_
            refine thenC_n ?_
            refine CS.ret ?_
            refine blockC_r ?_
            refine thenC_r ?_
            refine loopQ_r ?_
            refine blockC_r ?_
            refine thenC_r ?_
            refine retQ.mk (H' := []) (.inr rfl) (RVs.tmp (by rfl) RVs.nil) (List.nil_sublist _) ?_
            exact ⟨congrArg Value.bool (decide_eq_false fun h => mdiffers hlt hlt' (ne_of_beq_false hb3p) h.2).symm, rfl⟩
          · have hb3p := Eq.mp (Bool.not_eq_false' _) hb3
            refine CS.skip ?_
            refine blockC_n ?_
            refine thenC_n ?_
            refine CS.region ?_
            first | (refine RS.q rfl (QO.add (by rfl) (by rfl) (by omega) (by omega)) ?_) | (refine RS.q rfl (QO.ibin (by rfl) (by rfl) trivial) ?_)
            refine RS.q rfl (QO.move) ?_
            refine RS.nil ?_
            refine loopQ_n (by intro t ht; repeat (first | exact frame_puts ht (frame_mix ht) _ rfl | (refine frame_put rfl ht ?_) | (refine frame_puts ht ?_ _ rfl) | exact frame_mix ht | (refine frame_mix2 rfl ht ?_) | exact rfl)) ?_
            exact ⟨k + 1, ⟨by omega, mtake_more hz hlt hlt' (eq_of_beq hb3p)⟩, by omega, (by repeat (first | exact kn_nil | refine kn_cons (by rfl) ?_)), (by repeat (first | exact List.Sublist.refl _ | exact List.nil_sublist _ | refine List.Sublist.cons_cons _ ?_ | refine List.Sublist.cons _ ?_ | exact Sbp.refl | exact Sbp.nil | refine Sbp.cons (by repeat (first | exact Rem.head | apply Rem.tail)) ?_ | exact Sbp.app | refine Sbp.skip ?_))⟩
        · have hb2p := of_decide_eq_false hb2
          refine CS.exit ?_
          refine thenC_x ?_
          refine loopQ_x ?_
          refine blockC_x ?_
          refine thenC_n ?_
          refine CS.seq ?_
          refine CS.region ?_
          refine RS.q rfl (QO.assign) ?_
          refine RS.nil ?_
          refine thenC_n ?_
          refine CS.ret ?_
          refine retQ.mk (H' := []) (.inr rfl) (RVs.tmp (by rfl) RVs.nil) (List.nil_sublist _) ?_
          have hkn : k = n := by omega
          exact ⟨congrArg Value.bool (decide_eq_true ⟨of_bne_false hb0, take_whole hz (by rw [List.length_map]; omega) (by rw [List.length_map]; omega)⟩).symm, rfl⟩

set_option maxRecDepth 100000 in
theorem there (x y X Y : Int) (a b : Nat) (W : World) (hX : -1048576 ≤ X ∧ X ≤ 1048576) (hY : -1048576 ≤ Y ∧ Y ≤ 1048576) (ha : 1 ≤ a ∧ a ≤ 256) (hb : 1 ≤ b ∧ b ≤ 256) : Fn_ Try.prog 168 #[.agg #[iv X, iv Y, iv (a : Int), iv (b : Int)], iv x, iv y] W (fun v H => v = .bool (atB x y X Y a b) ∧ H = []) := by
  refine Fn_.intro Try.func168 rfl rfl (by rfl) ?_
  refine CS.seq ?_
  refine CS.region ?_
  refine RS.box rfl (by rfl) (by rfl) ?_
  intro g3
  refine RS.q rfl (QO.assign) ?_
  refine RS.nil ?_
  refine thenC_n ?_
  refine CS.seq ?_
  refine CS.region ?_
  refine RS.q rfl (QO.move) ?_
  refine RS.q rfl (QO.move) ?_
  refine RS.q rfl (QO.build ty23 pl23 (by rfl)) ?_
  first | (refine RS.q rfl (QO.loadB ty23 (by rfl) (by repeat (first | exact List.Mem.head _ | refine List.Mem.tail _ ?_)) (by rfl)) ?_) | (refine RS.q rfl (QO.loadA ty23 (by rfl) (by repeat (first | exact List.Mem.head _ | refine List.Mem.tail _ ?_)) (by rfl) (by rfl)) ?_) | (refine RS.q rfl (QO.loadOA ty23 (by rfl) (by assumption) (by rfl)) ?_)
  refine RS.call rfl (by rfl) ok25 (by rfl) (fun w ho => rinside x y 1 1 X Y a b _ (by omega) (by omega) (by omega) (by omega) (by omega) (by omega)) ?_
  rintro _ _ ⟨rfl, rfl⟩
  refine RS.q rfl (QO.assign) ?_
  refine RS.nil ?_
  refine thenC_n ?_
  refine CS.ret ?_
  refine retQ.mk (H' := []) (.inr rfl) (RVs.tmp (by rfl) RVs.nil) (List.nil_sublist _) ?_
  exact ⟨congrArg Value.bool (insB_at ..), rfl⟩

set_option maxRecDepth 100000 in
theorem rcut1 (x y : Int) (g : Nat) (X Y : Int) (a b : Nat) (A : Option Addr) (n c : Nat) (xs : List Nat) (W : World) (hg : ∀ j v, [iv X, iv Y, iv (a : Int), iv (b : Int), .slice A n c][j]? = some v → W.cell? ((⟨g, 0, none⟩ : Addr).add j) = some v) (hn : xs.length = n) (hA : FS W A xs) (hN : n = 4 * (a * b)) (hc : n ≤ c) (hcm : c ≤ maxLen) (hX : -1048576 ≤ X ∧ X ≤ 1048576) (hY : -1048576 ≤ Y ∧ Y ≤ 1048576) (ha : 1 ≤ a ∧ a ≤ 256) (hb : 1 ≤ b ∧ b ≤ 256) : Fn_ Try.prog 197 #[iv x, iv y, .pointer (some ⟨g, 0, none⟩)] W (fun v H => v = pxv (pixF xs X Y a b x y) ∧ H = []) := by
  refine Fn_.intro Try.func197 rfl rfl (by rfl) ?_
  refine CS.seq ?_
  refine CS.region ?_
  refine RS.alloc rfl ty35 ?_
  intro g5
  refine RS.nil ?_
  refine thenC_n ?_
  refine CS.seq ?_
  refine CS.region ?_
  refine RS.q rfl (QO.loadOA ty26 (vs := [iv X, iv Y, iv (a : Int), iv (b : Int), .slice A n c]) (by rfl) hg (by rfl)) ?_
  refine RS.q rfl (QO.move) ?_
  refine RS.q rfl (QO.move) ?_
  refine RS.call rfl (by rfl) ok23 (by rfl) (fun w ho => pixelAt X Y a b A n c xs x y _ hn (hA.own ho) hN hc ha hb hX hY) ?_
  rintro _ _ ⟨rfl, rfl⟩
  first | refine RS.storeB ty35 (by rfl) (by rfl) (by rfl) (by rfl) (by rfl) (by repeat (first | exact Upd.head | apply Upd.tail)) (by rfl) ?_ | refine RS.storeP ty35 (by rfl) (by rfl) (by rfl) (by rfl) (by rfl) (by repeat (first | exact Upd.head | apply Upd.tail)) (by rfl) ?_
  refine RS.nil ?_
  refine thenC_n ?_
  refine CS.ret ?_
  refine retQ.mk (H' := []) (.inr rfl) (RVs.cellA ty35 (by rfl) (by repeat (first | exact List.Mem.head _ | refine List.Mem.tail _ ?_)) (by rfl) RVs.nil) (List.nil_sublist _) ?_
  exact ⟨rfl, rfl⟩

set_option maxRecDepth 100000 in
theorem rcut (X Y : Int) (a b : Nat) (A : Option Addr) (n c : Nat) (xs : List Nat) (rx ry : Int) (u s : Nat) (W : World) (hn : xs.length = n) (hA : FS W A xs) (hN : n = 4 * (a * b)) (hc : n ≤ c) (hcm : c ≤ maxLen) (hX : -1048576 ≤ X ∧ X ≤ 1048576) (hY : -1048576 ≤ Y ∧ Y ≤ 1048576) (ha : 1 ≤ a ∧ a ≤ 256) (hb : 1 ≤ b ∧ b ≤ 256) (hrx : -1048576 ≤ rx ∧ rx ≤ 1048576) (hry : -1048576 ≤ ry ∧ ry ≤ 1048576) (hu : 1 ≤ u ∧ u ≤ 256) (hs : 1 ≤ s ∧ s ≤ 256) : Fn_ Try.prog 103 #[.agg #[iv X, iv Y, iv (a : Int), iv (b : Int), .slice A n c], .agg #[iv rx, iv ry, iv (u : Int), iv (s : Int)]] W (fun v H => MadeR rx ry u s (cutV xs X Y a b rx ry u s) v H) := by
  refine Fn_.intro Try.func103 rfl rfl (by rfl) ?_
  refine CS.seq ?_
  refine CS.region ?_
  refine RS.box rfl (by rfl) (by rfl) ?_
  intro g2
  refine RS.box rfl (by rfl) (by rfl) ?_
  intro g3
  refine RS.alloc rfl ty26 ?_
  intro g4
  refine RS.nil ?_
  refine thenC_n ?_
  refine CS.seq ?_
  refine CS.region ?_
  first | (refine RS.q rfl (QO.loadB ty23 (by rfl) (by repeat (first | exact List.Mem.head _ | refine List.Mem.tail _ ?_)) (by rfl)) ?_) | (refine RS.q rfl (QO.loadA ty23 (by rfl) (by repeat (first | exact List.Mem.head _ | refine List.Mem.tail _ ?_)) (by rfl) (by rfl)) ?_) | (refine RS.q rfl (QO.loadOA ty23 (by rfl) (by assumption) (by rfl)) ?_)
  refine RS.q rfl (QO.makeFunc) ?_
  refine RS.call rfl (by rfl) ok95 (by rfl) (fun w ho => made' rx ry u s 197 #[.pointer (some ⟨g2, 0, none⟩)] (pixF xs X Y a b) _ (by kernel_rfl) hu hs hrx hry (fun wd Hd hd x y _ _ _ _ => rcut1 x y g2 X Y a b A n c xs wd (fun j v hj => hd.old (ho.cellAt (by repeat (first | exact List.Mem.head _ | refine List.Mem.tail _ ?_)) hj)) hn ((hA.own ho).own hd) hN hc hcm hX hY ha hb)) ?_
  intro v7 H7 hv7
  obtain ⟨gm, cm, jm, rfl, rfl, hcm1, hcm2⟩ := hv7
  first | refine RS.storeB ty26 (by rfl) (by rfl) (by rfl) (by rfl) (by rfl) (by repeat (first | exact Upd.head | apply Upd.tail)) (by rfl) ?_ | refine RS.storeP ty26 (by rfl) (by rfl) (by rfl) (by rfl) (by rfl) (by repeat (first | exact Upd.head | apply Upd.tail)) (by rfl) ?_
  refine RS.nil ?_
  refine thenC_n ?_
  refine CS.ret ?_
  refine retQ.mk (H' := [⟨gm, 33, (cutV xs X Y a b rx ry u s).map flt ++ jm⟩]) (.inr rfl) (RVs.cellA ty26 (by rfl) (by repeat (first | exact List.Mem.head _ | refine List.Mem.tail _ ?_)) (by rfl) RVs.nil) (by repeat (first | exact List.Sublist.refl _ | exact List.nil_sublist _ | refine List.Sublist.cons_cons _ ?_ | refine List.Sublist.cons _ ?_ | exact Sbp.refl | exact Sbp.nil | refine Sbp.cons (by repeat (first | exact Rem.head | apply Rem.tail)) ?_ | exact Sbp.app | refine Sbp.skip ?_)) ?_
  exact ⟨gm, cm, jm, rfl, rfl, hcm1, hcm2⟩

set_option maxRecDepth 100000 in
theorem rpaste1 (x y : Int) (g h : Nat) (X Y : Int) (a b : Nat) (A : Option Addr) (n c : Nat) (xs : List Nat) (X2 Y2 : Int) (a2 b2 : Nat) (A2 : Option Addr) (n2 c2 : Nat) (zs : List Nat) (W : World) (hg : ∀ j v, [iv X2, iv Y2, iv (a2 : Int), iv (b2 : Int), .slice A2 n2 c2][j]? = some v → W.cell? ((⟨g, 0, none⟩ : Addr).add j) = some v) (hh : ∀ j v, [iv X, iv Y, iv (a : Int), iv (b : Int), .slice A n c][j]? = some v → W.cell? ((⟨h, 0, none⟩ : Addr).add j) = some v) (hn : xs.length = n) (hA : FS W A xs) (hN : n = 4 * (a * b)) (hc : n ≤ c) (hcm : c ≤ maxLen) (hX : -1048576 ≤ X ∧ X ≤ 1048576) (hY : -1048576 ≤ Y ∧ Y ≤ 1048576) (ha : 1 ≤ a ∧ a ≤ 256) (hb : 1 ≤ b ∧ b ≤ 256) (hn2 : zs.length = n2) (hA2 : FS W A2 zs) (hN2 : n2 = 4 * (a2 * b2)) (hX2 : -1048576 ≤ X2 ∧ X2 ≤ 1048576) (hY2 : -1048576 ≤ Y2 ∧ Y2 ≤ 1048576) (ha2 : 1 ≤ a2 ∧ a2 ≤ 256) (hb2 : 1 ≤ b2 ∧ b2 ≤ 256) (hc2 : n2 ≤ c2) : Fn_ Try.prog 195 #[iv x, iv y, .pointer (some ⟨g, 0, none⟩), .pointer (some ⟨h, 0, none⟩)] W (fun v H => v = pxv (pasteF xs zs X Y a b X2 Y2 a2 b2 x y) ∧ H = []) := by
  refine Fn_.intro Try.func195 rfl rfl (by rfl) ?_
  refine CS.seq ?_
  refine CS.region ?_
  refine RS.alloc rfl ty35 ?_
  intro g6
  refine RS.nil ?_
  refine thenC_n ?_
  refine CS.seq ?_
  refine CS.seq ?_
  refine CS.region ?_
  refine RS.q rfl (QO.fieldAddr fo26_0 (by rfl)) ?_
  refine RS.q rfl (QO.loadOA ty23 (vs := [iv X2, iv Y2, iv (a2 : Int), iv (b2 : Int)]) (by rfl) (fun j v hj => by
    have hj4 : j < 4 := (List.getElem?_eq_some_iff.1 hj).1
    rw [addr_add, Nat.add_assoc, Nat.add_comm, ← addr_add0]; exact hg (0 + j) v (by match j, hj4 with
      | 0, _ => exact hj
      | 1, _ => exact hj
      | 2, _ => exact hj
      | 3, _ => exact hj)) (by rfl)) ?_
  refine RS.q rfl (QO.move) ?_
  refine RS.q rfl (QO.move) ?_
  refine RS.call rfl (by rfl) ok168 (by rfl) (fun w ho => there x y X2 Y2 a2 b2 _ hX2 hY2 ha2 hb2) ?_
  rintro _ _ ⟨rfl, rfl⟩
  refine RS.nil ?_
  refine thenC_n ?_
  refine CS.cond (by rfl) (fun hb0 => ?_) (fun hb0 => ?_)
  · refine CS.seq ?_
    refine CS.region ?_
    refine RS.q rfl (QO.loadOA ty26 (vs := [iv X2, iv Y2, iv (a2 : Int), iv (b2 : Int), .slice A2 n2 c2]) (by rfl) hg (by rfl)) ?_
    refine RS.q rfl (QO.move) ?_
    refine RS.q rfl (QO.move) ?_
    refine RS.call rfl (by rfl) ok23 (by rfl) (fun w ho => pixelAt X2 Y2 a2 b2 A2 n2 c2 zs x y _ hn2 (hA2.own ho) hN2 hc2 ha2 hb2 hX2 hY2) ?_
    rintro _ _ ⟨rfl, rfl⟩
    first | refine RS.storeB ty35 (by rfl) (by rfl) (by rfl) (by rfl) (by rfl) (by repeat (first | exact Upd.head | apply Upd.tail)) (by rfl) ?_ | refine RS.storeP ty35 (by rfl) (by rfl) (by rfl) (by rfl) (by rfl) (by repeat (first | exact Upd.head | apply Upd.tail)) (by rfl) ?_
    refine RS.nil ?_
    refine thenC_n ?_
    refine CS.ret ?_
    refine thenC_r ?_
    refine retQ.mk (H' := []) (.inr rfl) (RVs.cellA ty35 (by rfl) (by repeat (first | exact List.Mem.head _ | refine List.Mem.tail _ ?_)) (by rfl) RVs.nil) (List.nil_sublist _) ?_
    exact ⟨congrArg pxv (funext fun c => (if_pos hb0).symm), rfl⟩
  · refine CS.skip ?_
    refine thenC_n ?_
    refine CS.seq ?_
    refine CS.region ?_
    refine RS.q rfl (QO.loadOA ty26 (vs := [iv X, iv Y, iv (a : Int), iv (b : Int), .slice A n c]) (by rfl) hh (by rfl)) ?_
    refine RS.q rfl (QO.move) ?_
    refine RS.q rfl (QO.move) ?_
    refine RS.call rfl (by rfl) ok23 (by rfl) (fun w ho => pixelAt X Y a b A n c xs x y _ hn (hA.own ho) hN hc ha hb hX hY) ?_
    rintro _ _ ⟨rfl, rfl⟩
    first | refine RS.storeB ty35 (by rfl) (by rfl) (by rfl) (by rfl) (by rfl) (by repeat (first | exact Upd.head | apply Upd.tail)) (by rfl) ?_ | refine RS.storeP ty35 (by rfl) (by rfl) (by rfl) (by rfl) (by rfl) (by repeat (first | exact Upd.head | apply Upd.tail)) (by rfl) ?_
    refine RS.nil ?_
    refine thenC_n ?_
    refine CS.ret ?_
    refine retQ.mk (H' := []) (.inr rfl) (RVs.cellA ty35 (by rfl) (by repeat (first | exact List.Mem.head _ | refine List.Mem.tail _ ?_)) (by rfl) RVs.nil) (List.nil_sublist _) ?_
    exact ⟨congrArg pxv (funext fun c => (if_neg (by rw [hb0]; decide)).symm), rfl⟩

set_option maxRecDepth 100000 in
theorem rpaste (X Y : Int) (a b : Nat) (A : Option Addr) (n c : Nat) (xs : List Nat) (X2 Y2 : Int) (a2 b2 : Nat) (A2 : Option Addr) (n2 c2 : Nat) (zs : List Nat) (W : World) (hn : xs.length = n) (hA : FS W A xs) (hN : n = 4 * (a * b)) (hc : n ≤ c) (hcm : c ≤ maxLen) (hX : -1048576 ≤ X ∧ X ≤ 1048576) (hY : -1048576 ≤ Y ∧ Y ≤ 1048576) (ha : 1 ≤ a ∧ a ≤ 256) (hb : 1 ≤ b ∧ b ≤ 256) (hn2 : zs.length = n2) (hA2 : FS W A2 zs) (hN2 : n2 = 4 * (a2 * b2)) (hX2 : -1048576 ≤ X2 ∧ X2 ≤ 1048576) (hY2 : -1048576 ≤ Y2 ∧ Y2 ≤ 1048576) (ha2 : 1 ≤ a2 ∧ a2 ≤ 256) (hb2 : 1 ≤ b2 ∧ b2 ≤ 256) (hc2 : n2 ≤ c2) : Fn_ Try.prog 101 #[.agg #[iv X, iv Y, iv (a : Int), iv (b : Int), .slice A n c], .agg #[iv X2, iv Y2, iv (a2 : Int), iv (b2 : Int), .slice A2 n2 c2]] W (fun v H => MadeR X Y a b (pstV xs zs X Y a b X2 Y2 a2 b2) v H) := by
  refine Fn_.intro Try.func101 rfl rfl (by rfl) ?_
  refine CS.seq ?_
  refine CS.region ?_
  refine RS.box rfl (by rfl) (by rfl) ?_
  intro g2
  refine RS.box rfl (by rfl) (by rfl) ?_
  intro g3
  refine RS.alloc rfl ty26 ?_
  intro g4
  refine RS.nil ?_
  refine thenC_n ?_
  refine CS.seq ?_
  refine CS.region ?_
  refine RS.q rfl (QO.fieldAddr fo26_0 (by rfl)) ?_
  first | (refine RS.q rfl (QO.loadB ty23 (by rfl) (by repeat (first | exact List.Mem.head _ | refine List.Mem.tail _ ?_)) (by rfl)) ?_) | (refine RS.q rfl (QO.loadA ty23 (by rfl) (by repeat (first | exact List.Mem.head _ | refine List.Mem.tail _ ?_)) (by rfl) (by rfl)) ?_) | (refine RS.q rfl (QO.loadOA ty23 (by rfl) (by assumption) (by rfl)) ?_)
  refine RS.q rfl (QO.makeFunc) ?_
  refine RS.call rfl (by rfl) ok95 (by rfl) (fun w ho => made' X Y a b 195 #[.pointer (some ⟨g3, 0, none⟩), .pointer (some ⟨g2, 0, none⟩)] (pasteF xs zs X Y a b X2 Y2 a2 b2) _ (by kernel_rfl) ha hb hX hY (fun wd Hd hd x y _ _ _ _ => rpaste1 x y g3 g2 X Y a b A n c xs X2 Y2 a2 b2 A2 n2 c2 zs wd (fun j v hj => hd.old (ho.cellAt (by repeat (first | exact List.Mem.head _ | refine List.Mem.tail _ ?_)) hj)) (fun j v hj => hd.old (ho.cellAt (by repeat (first | exact List.Mem.head _ | refine List.Mem.tail _ ?_)) hj)) hn ((hA.own ho).own hd) hN hc hcm hX hY ha hb hn2 ((hA2.own ho).own hd) hN2 hX2 hY2 ha2 hb2 hc2)) ?_
  intro v8 H8 hv8
  obtain ⟨gm, cm, jm, rfl, rfl, hcm1, hcm2⟩ := hv8
  first | refine RS.storeB ty26 (by rfl) (by rfl) (by rfl) (by rfl) (by rfl) (by repeat (first | exact Upd.head | apply Upd.tail)) (by rfl) ?_ | refine RS.storeP ty26 (by rfl) (by rfl) (by rfl) (by rfl) (by rfl) (by repeat (first | exact Upd.head | apply Upd.tail)) (by rfl) ?_
  refine RS.nil ?_
  refine thenC_n ?_
  refine CS.ret ?_
  refine retQ.mk (H' := [⟨gm, 33, (pstV xs zs X Y a b X2 Y2 a2 b2).map flt ++ jm⟩]) (.inr rfl) (RVs.cellA ty26 (by rfl) (by repeat (first | exact List.Mem.head _ | refine List.Mem.tail _ ?_)) (by rfl) RVs.nil) (by repeat (first | exact List.Sublist.refl _ | exact List.nil_sublist _ | refine List.Sublist.cons_cons _ ?_ | refine List.Sublist.cons _ ?_ | exact Sbp.refl | exact Sbp.nil | refine Sbp.cons (by repeat (first | exact Rem.head | apply Rem.tail)) ?_ | exact Sbp.app | refine Sbp.skip ?_)) ?_
  exact ⟨gm, cm, jm, rfl, rfl, hcm1, hcm2⟩

set_option maxRecDepth 100000 in
theorem cutlaw1 (x y : Int) (g : Nat) (q : Nat → Nat) (W : World) (hg : ∀ j v, [flt (q 0), flt (q 1), flt (q 2), flt (q 3)][j]? = some v → W.cell? ((⟨g, 0, none⟩ : Addr).add j) = some v) : Fn_ Try.prog 96 #[iv x, iv y, .pointer (some ⟨g, 0, none⟩)] W (fun v H => v = pxv q ∧ H = []) := by
  refine Fn_.intro Try.func96 rfl rfl (by rfl) ?_
  refine CS.seq ?_
  refine CS.region ?_
  refine RS.alloc rfl ty35 ?_
  intro g5
  refine RS.nil ?_
  refine thenC_n ?_
  refine CS.seq ?_
  refine CS.region ?_
  refine RS.q rfl (QO.loadOA ty35 (vs := [flt (q 0), flt (q 1), flt (q 2), flt (q 3)]) (by rfl) hg (by rfl)) ?_
  first | refine RS.storeB ty35 (by rfl) (by rfl) (by rfl) (by rfl) (by rfl) (by repeat (first | exact Upd.head | apply Upd.tail)) (by rfl) ?_ | refine RS.storeP ty35 (by rfl) (by rfl) (by rfl) (by rfl) (by rfl) (by repeat (first | exact Upd.head | apply Upd.tail)) (by rfl) ?_
  refine RS.nil ?_
  refine thenC_n ?_
  refine CS.ret ?_
  refine retQ.mk (H' := []) (.inr rfl) (RVs.cellA ty35 (by rfl) (by repeat (first | exact List.Mem.head _ | refine List.Mem.tail _ ?_)) (by rfl) RVs.nil) (List.nil_sublist _) ?_
  exact ⟨rfl, rfl⟩

set_option maxRecDepth 100000 in
theorem cutlaw2 (x y : Int) (g : Nat) (q : Nat → Nat) (W : World) (hg : ∀ j v, [flt (q 0), flt (q 1), flt (q 2), flt (q 3)][j]? = some v → W.cell? ((⟨g, 0, none⟩ : Addr).add j) = some v) : Fn_ Try.prog 99 #[iv x, iv y, .pointer (some ⟨g, 0, none⟩)] W (fun v H => v = pxv q ∧ H = []) := by
  refine Fn_.intro Try.func99 rfl rfl (by rfl) ?_
  refine CS.seq ?_
  refine CS.region ?_
  refine RS.alloc rfl ty35 ?_
  intro g5
  refine RS.nil ?_
  refine thenC_n ?_
  refine CS.seq ?_
  refine CS.region ?_
  refine RS.q rfl (QO.loadOA ty35 (vs := [flt (q 0), flt (q 1), flt (q 2), flt (q 3)]) (by rfl) hg (by rfl)) ?_
  first | refine RS.storeB ty35 (by rfl) (by rfl) (by rfl) (by rfl) (by rfl) (by repeat (first | exact Upd.head | apply Upd.tail)) (by rfl) ?_ | refine RS.storeP ty35 (by rfl) (by rfl) (by rfl) (by rfl) (by rfl) (by repeat (first | exact Upd.head | apply Upd.tail)) (by rfl) ?_
  refine RS.nil ?_
  refine thenC_n ?_
  refine CS.ret ?_
  refine retQ.mk (H' := []) (.inr rfl) (RVs.cellA ty35 (by rfl) (by repeat (first | exact List.Mem.head _ | refine List.Mem.tail _ ?_)) (by rfl) RVs.nil) (List.nil_sublist _) ?_
  exact ⟨rfl, rfl⟩

end Go.Proofs.Ytplfeaikjgfhcaa
