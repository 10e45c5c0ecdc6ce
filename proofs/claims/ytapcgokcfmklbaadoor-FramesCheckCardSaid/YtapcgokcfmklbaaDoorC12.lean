/-
  Contracts: frames filled, read, cut and pasted. Conditions: as each theorem says.
-/
import Derived.Test.YtapcgokcfmklbaaDoorC10
import Derived.Test.YtapcgokcfmklbaaDoorMut
import Derived.Test.YtapcgokcfmklbaaDoorCut
namespace Go.Proofs.YtapcgokcfmklbaaDoor
open Go Go.Proofs Go.RowKit

theorem ok74 : callOK Tryd.prog 74 = true := by kernel_rfl
theorem ok73 : callOK Tryd.prog 73 = true := by kernel_rfl
theorem ok16 : callOK Tryd.prog 16 = true := by kernel_rfl
theorem ok18 : callOK Tryd.prog 18 = true := by kernel_rfl

theorem atB_T {x y X Y W H : Int} (h : atB x y X Y W H = true) : X ≤ x ∧ Y ≤ y ∧ x ≤ X + W - 1 ∧ y ≤ Y + H - 1 := of_decide_eq_true h
theorem atB_F {x y X Y W H : Int} (h : atB x y X Y W H = false) : ¬ (X ≤ x ∧ Y ≤ y ∧ x ≤ X + W - 1 ∧ y ≤ Y + H - 1) := of_decide_eq_false h
theorem insB_at (x y X Y W H : Int) : insB x y 1 1 X Y W H = atB x y X Y W H := by
  unfold insB atB
  congr 1

set_option maxRecDepth 100000 in
theorem take_ (A : Option Addr) (n c : Nat) (xs : List Nat) (W : World) (hn : xs.length = n) (hA : FS W A xs) (h4 : 4 ≤ n) (hc : n ≤ c) (hcm : c ≤ maxLen) : Fn_ Tryd.prog 16 #[.slice A n c] W (fun v H => v = .tuple #[pxv (fun k => xs.getD k 0), iv 0] ∧ H = []) := by
  subst hn
  obtain ⟨bA, oA, rfl, hcell⟩ := hA (by omega)
  refine Fn_.intro Tryd.func16 rfl rfl (by rfl) ?_
  refine CS.seq ?_
  refine CS.region ?_
  refine RS.alloc rfl ty38 ?_
  intro g2
  refine RS.q rfl (QO.assign) ?_
  refine RS.nil ?_
  refine thenC_n ?_
  refine CS.seq ?_
  refine CS.seq ?_
  refine CS.region ?_
  refine RS.q rfl (QO.move) ?_
  refine RS.q rfl (QO.lenS Tryd.underlying32 (by rfl)) ?_
  refine RS.q rfl (QO.lss (by rfl) (by rfl)) ?_
  refine RS.nil ?_
  refine thenC_n ?_
  refine CS.condF (by rfl) (decide_eq_false (by omega)) ?_
  refine CS.skip ?_
  refine thenC_n ?_
  refine CS.seq ?_
  refine CS.region ?_
  refine RS.q rfl (QO.move) ?_
  refine RS.q rfl (QO.cutHi Tryd.underlying32 ty36 (by rfl) (by rfl) (by omega) (by omega)) ?_
  refine RS.q rfl (QO.arrPtr Tryd.underlying38 (by rfl) (by omega)) ?_
  refine RS.q rfl (QO.loadOA ty38 (vs := [flt (xs.getD 0 0), flt (xs.getD 1 0), flt (xs.getD 2 0), flt (xs.getD 3 0)]) (by rfl) (fun j v hj => by
    have hj4 : j < 4 := (List.getElem?_eq_some_iff.1 hj).1
    rw [idx4 (fun k => flt (xs.getD k 0)) j hj4] at hj
    cases hj
    rw [addr_add]
    exact hcell _ _ (by rw [List.getElem?_eq_getElem (show j < xs.length by omega), getD_at])) (by rfl)) ?_
  first | refine RS.storeB ty38 (by rfl) (by rfl) (by rfl) (by rfl) (by rfl) (by repeat (first | exact Upd.head | apply Upd.tail)) (by rfl) ?_ | refine RS.storeP ty38 (by rfl) (by rfl) (by rfl) (by rfl) (by rfl) (by repeat (first | exact Upd.head | apply Upd.tail)) (by rfl) ?_
  refine RS.q rfl (QO.assign) ?_
  refine RS.nil ?_
  refine thenC_n ?_
  refine CS.ret ?_
  refine retQ.mk (H' := []) (.inr rfl) (RVs.cellA ty38 (by rfl) (by repeat (first | exact List.Mem.head _ | refine List.Mem.tail _ ?_)) (by rfl) (RVs.tmp (by rfl) RVs.nil)) (List.nil_sublist _) ?_
  exact ⟨rfl, rfl⟩

set_option maxRecDepth 100000 in
theorem has (x y X Y : Int) (w h : Nat) (W : World) (hX : -1048576 ≤ X ∧ X ≤ 1048576) (hY : -1048576 ≤ Y ∧ Y ≤ 1048576) (hw : w ≤ 256) (hh : h ≤ 256) : Fn_ Tryd.prog 73 #[.agg #[iv X, iv Y, iv (w : Int), iv (h : Int)], iv x, iv y] W (fun v H => v = .bool (atB x y X Y w h) ∧ H = []) := by
  refine Fn_.intro Tryd.func73 rfl rfl (by rfl) ?_
  refine CS.seq ?_
  refine CS.region ?_
  refine RS.box rfl (by rfl) (by rfl) ?_
  intro g3
  refine RS.q rfl (QO.assign) ?_
  refine RS.nil ?_
  refine thenC_n ?_
  refine CS.seq ?_
  refine CS.region ?_
  refine RS.q rfl (QO.move) ?_
  refine RS.q rfl (QO.fieldAddr fo31_0 (by rfl)) ?_
  first | (refine RS.q rfl (QO.load ty3 (by rfl) (by repeat (first | exact List.Mem.head _ | refine List.Mem.tail _ ?_)) (by rfl)) ?_) | (refine RS.q rfl (QO.loadO ty3 (by rfl) (by assumption)) ?_) | (refine RS.q rfl (QO.load ty3 (by rfl) (by repeat (first | exact List.Mem.head _ | refine List.Mem.tail _ ?_)) (by assumption)) ?_)
  refine RS.q rfl (QO.geq (by rfl) (by rfl)) ?_
  refine RS.q rfl (QO.move) ?_
  refine RS.split (dj := 11) (by rfl) (fun hb0 => ?_) (fun hb0 => ?_)
  · have hb0p := of_decide_eq_true hb0
    refine RS.on (dj := 11) rfl (congrArg Value.bool hb0) ?_
    refine RS.q rfl (QO.move) ?_
    refine RS.on (dj := 11) rfl (congrArg Value.bool hb0) ?_
    refine RS.q rfl (QO.fieldAddr fo31_1 (by rfl)) ?_
    refine RS.on (dj := 11) rfl (congrArg Value.bool hb0) ?_
    first | (refine RS.q rfl (QO.load ty3 (by rfl) (by repeat (first | exact List.Mem.head _ | refine List.Mem.tail _ ?_)) (by rfl)) ?_) | (refine RS.q rfl (QO.loadO ty3 (by rfl) (by assumption)) ?_) | (refine RS.q rfl (QO.load ty3 (by rfl) (by repeat (first | exact List.Mem.head _ | refine List.Mem.tail _ ?_)) (by assumption)) ?_)
    refine RS.on (dj := 11) rfl (congrArg Value.bool hb0) ?_
    refine RS.q rfl (QO.geq (by rfl) (by rfl)) ?_
    refine RS.q rfl (QO.pickT (by rfl) hb0 (by rfl)) ?_
    refine RS.q rfl (QO.move) ?_
    refine RS.split (dj := 17) (by rfl) (fun hb1 => ?_) (fun hb1 => ?_)
    · have hb1p := of_decide_eq_true hb1
      refine RS.on (dj := 17) rfl (congrArg Value.bool hb1) ?_
      refine RS.q rfl (QO.move) ?_
      refine RS.on (dj := 17) rfl (congrArg Value.bool hb1) ?_
      refine RS.q rfl (QO.fieldAddr fo31_0 (by rfl)) ?_
      refine RS.on (dj := 17) rfl (congrArg Value.bool hb1) ?_
      first | (refine RS.q rfl (QO.load ty3 (by rfl) (by repeat (first | exact List.Mem.head _ | refine List.Mem.tail _ ?_)) (by rfl)) ?_) | (refine RS.q rfl (QO.loadO ty3 (by rfl) (by assumption)) ?_) | (refine RS.q rfl (QO.load ty3 (by rfl) (by repeat (first | exact List.Mem.head _ | refine List.Mem.tail _ ?_)) (by assumption)) ?_)
      refine RS.on (dj := 17) rfl (congrArg Value.bool hb1) ?_
      refine RS.q rfl (QO.fieldAddr fo31_2 (by rfl)) ?_
      refine RS.on (dj := 17) rfl (congrArg Value.bool hb1) ?_
      first | (refine RS.q rfl (QO.load ty3 (by rfl) (by repeat (first | exact List.Mem.head _ | refine List.Mem.tail _ ?_)) (by rfl)) ?_) | (refine RS.q rfl (QO.loadO ty3 (by rfl) (by assumption)) ?_) | (refine RS.q rfl (QO.load ty3 (by rfl) (by repeat (first | exact List.Mem.head _ | refine List.Mem.tail _ ?_)) (by assumption)) ?_)
      refine RS.on (dj := 17) rfl (congrArg Value.bool hb1) ?_
      first | (refine RS.q rfl (QO.add (by rfl) (by rfl) (by omega) (by omega)) ?_) | (refine RS.q rfl (QO.ibin (by rfl) (by rfl) trivial) ?_)
      refine RS.on (dj := 17) rfl (congrArg Value.bool hb1) ?_
      refine RS.q rfl (QO.lss (by rfl) (by rfl)) ?_
      refine RS.q rfl (QO.pickT (by rfl) hb1 (by rfl)) ?_
      refine RS.q rfl (QO.move) ?_
      refine RS.split (dj := 26) (by rfl) (fun hb2 => ?_) (fun hb2 => ?_)
      · have hb2p := of_decide_eq_true hb2
        refine RS.on (dj := 26) rfl (congrArg Value.bool hb2) ?_
        refine RS.q rfl (QO.move) ?_
        refine RS.on (dj := 26) rfl (congrArg Value.bool hb2) ?_
        refine RS.q rfl (QO.fieldAddr fo31_1 (by rfl)) ?_
        refine RS.on (dj := 26) rfl (congrArg Value.bool hb2) ?_
        first | (refine RS.q rfl (QO.load ty3 (by rfl) (by repeat (first | exact List.Mem.head _ | refine List.Mem.tail _ ?_)) (by rfl)) ?_) | (refine RS.q rfl (QO.loadO ty3 (by rfl) (by assumption)) ?_) | (refine RS.q rfl (QO.load ty3 (by rfl) (by repeat (first | exact List.Mem.head _ | refine List.Mem.tail _ ?_)) (by assumption)) ?_)
        refine RS.on (dj := 26) rfl (congrArg Value.bool hb2) ?_
        refine RS.q rfl (QO.fieldAddr fo31_3 (by rfl)) ?_
        refine RS.on (dj := 26) rfl (congrArg Value.bool hb2) ?_
        first | (refine RS.q rfl (QO.load ty3 (by rfl) (by repeat (first | exact List.Mem.head _ | refine List.Mem.tail _ ?_)) (by rfl)) ?_) | (refine RS.q rfl (QO.loadO ty3 (by rfl) (by assumption)) ?_) | (refine RS.q rfl (QO.load ty3 (by rfl) (by repeat (first | exact List.Mem.head _ | refine List.Mem.tail _ ?_)) (by assumption)) ?_)
        refine RS.on (dj := 26) rfl (congrArg Value.bool hb2) ?_
        first | (refine RS.q rfl (QO.add (by rfl) (by rfl) (by omega) (by omega)) ?_) | (refine RS.q rfl (QO.ibin (by rfl) (by rfl) trivial) ?_)
        refine RS.on (dj := 26) rfl (congrArg Value.bool hb2) ?_
        refine RS.q rfl (QO.lss (by rfl) (by rfl)) ?_
        refine RS.q rfl (QO.pickT (by rfl) hb2 (by rfl)) ?_
        refine RS.q rfl (QO.assign) ?_
        refine RS.nil ?_
        refine thenC_n ?_
        refine CS.ret ?_
        refine retQ.mk (H' := []) (.inr rfl) (RVs.tmp (by rfl) RVs.nil) (List.nil_sublist _) ?_
        exact ⟨congrArg Value.bool (by unfold atB; first | exact (decide_eq_false (by omega)).symm | exact decide_eq_decide.2 (by omega)), rfl⟩
      · have hb2p := of_decide_eq_false hb2
        refine RS.off (dj := 26) rfl (.inl (congrArg Value.bool hb2)) (fun _ => rfl) rfl ?_
        refine RS.off (dj := 26) rfl (.inl (congrArg Value.bool hb2)) (fun _ => rfl) rfl ?_
        refine RS.off (dj := 26) rfl (.inl (congrArg Value.bool hb2)) (fun _ => rfl) rfl ?_
        refine RS.off (dj := 26) rfl (.inl (congrArg Value.bool hb2)) (fun _ => rfl) rfl ?_
        refine RS.off (dj := 26) rfl (.inl (congrArg Value.bool hb2)) (fun _ => rfl) rfl ?_
        refine RS.off (dj := 26) rfl (.inl (congrArg Value.bool hb2)) (fun _ => rfl) rfl ?_
        refine RS.off (dj := 26) rfl (.inl (congrArg Value.bool hb2)) (fun _ => rfl) rfl ?_
        refine RS.q rfl (QO.pickF (by rfl) hb2 (by rfl)) ?_
        refine RS.q rfl (QO.assign) ?_
        refine RS.nil ?_
        refine thenC_n ?_
        refine CS.ret ?_
        refine retQ.mk (H' := []) (.inr rfl) (RVs.tmp (by rfl) RVs.nil) (List.nil_sublist _) ?_
        exact ⟨congrArg Value.bool (by unfold atB; first | exact (decide_eq_false (by omega)).symm | exact decide_eq_decide.2 (by omega)), rfl⟩
    · have hb1p := of_decide_eq_false hb1
      refine RS.off (dj := 17) rfl (.inl (congrArg Value.bool hb1)) (fun _ => rfl) rfl ?_
      refine RS.off (dj := 17) rfl (.inl (congrArg Value.bool hb1)) (fun _ => rfl) rfl ?_
      refine RS.off (dj := 17) rfl (.inl (congrArg Value.bool hb1)) (fun _ => rfl) rfl ?_
      refine RS.off (dj := 17) rfl (.inl (congrArg Value.bool hb1)) (fun _ => rfl) rfl ?_
      refine RS.off (dj := 17) rfl (.inl (congrArg Value.bool hb1)) (fun _ => rfl) rfl ?_
      refine RS.off (dj := 17) rfl (.inl (congrArg Value.bool hb1)) (fun _ => rfl) rfl ?_
      refine RS.off (dj := 17) rfl (.inl (congrArg Value.bool hb1)) (fun _ => rfl) rfl ?_
      refine RS.q rfl (QO.pickF (by rfl) hb1 (by rfl)) ?_
      refine RS.q rfl (QO.move) ?_
      refine RS.off (dj := 26) rfl (.inl (congrArg Value.bool rfl)) (fun _ => rfl) rfl ?_
      refine RS.off (dj := 26) rfl (.inl (congrArg Value.bool rfl)) (fun _ => rfl) rfl ?_
      refine RS.off (dj := 26) rfl (.inl (congrArg Value.bool rfl)) (fun _ => rfl) rfl ?_
      refine RS.off (dj := 26) rfl (.inl (congrArg Value.bool rfl)) (fun _ => rfl) rfl ?_
      refine RS.off (dj := 26) rfl (.inl (congrArg Value.bool rfl)) (fun _ => rfl) rfl ?_
      refine RS.off (dj := 26) rfl (.inl (congrArg Value.bool rfl)) (fun _ => rfl) rfl ?_
      refine RS.off (dj := 26) rfl (.inl (congrArg Value.bool rfl)) (fun _ => rfl) rfl ?_
      refine RS.q rfl (QO.pickF (by rfl) rfl (by rfl)) ?_
      refine RS.q rfl (QO.assign) ?_
      refine RS.nil ?_
      refine thenC_n ?_
      refine CS.ret ?_
      refine retQ.mk (H' := []) (.inr rfl) (RVs.tmp (by rfl) RVs.nil) (List.nil_sublist _) ?_
      exact ⟨congrArg Value.bool (by unfold atB; first | exact (decide_eq_false (by omega)).symm | exact decide_eq_decide.2 (by omega)), rfl⟩
  · have hb0p := of_decide_eq_false hb0
    refine RS.off (dj := 11) rfl (.inl (congrArg Value.bool hb0)) (fun _ => rfl) rfl ?_
    refine RS.off (dj := 11) rfl (.inl (congrArg Value.bool hb0)) (fun _ => rfl) rfl ?_
    refine RS.off (dj := 11) rfl (.inl (congrArg Value.bool hb0)) (fun _ => rfl) rfl ?_
    refine RS.off (dj := 11) rfl (.inl (congrArg Value.bool hb0)) (fun _ => rfl) rfl ?_
    refine RS.q rfl (QO.pickF (by rfl) hb0 (by rfl)) ?_
    refine RS.q rfl (QO.move) ?_
    refine RS.off (dj := 17) rfl (.inl (congrArg Value.bool rfl)) (fun _ => rfl) rfl ?_
    refine RS.off (dj := 17) rfl (.inl (congrArg Value.bool rfl)) (fun _ => rfl) rfl ?_
    refine RS.off (dj := 17) rfl (.inl (congrArg Value.bool rfl)) (fun _ => rfl) rfl ?_
    refine RS.off (dj := 17) rfl (.inl (congrArg Value.bool rfl)) (fun _ => rfl) rfl ?_
    refine RS.off (dj := 17) rfl (.inl (congrArg Value.bool rfl)) (fun _ => rfl) rfl ?_
    refine RS.off (dj := 17) rfl (.inl (congrArg Value.bool rfl)) (fun _ => rfl) rfl ?_
    refine RS.off (dj := 17) rfl (.inl (congrArg Value.bool rfl)) (fun _ => rfl) rfl ?_
    refine RS.q rfl (QO.pickF (by rfl) rfl (by rfl)) ?_
    refine RS.q rfl (QO.move) ?_
    refine RS.off (dj := 26) rfl (.inl (congrArg Value.bool rfl)) (fun _ => rfl) rfl ?_
    refine RS.off (dj := 26) rfl (.inl (congrArg Value.bool rfl)) (fun _ => rfl) rfl ?_
    refine RS.off (dj := 26) rfl (.inl (congrArg Value.bool rfl)) (fun _ => rfl) rfl ?_
    refine RS.off (dj := 26) rfl (.inl (congrArg Value.bool rfl)) (fun _ => rfl) rfl ?_
    refine RS.off (dj := 26) rfl (.inl (congrArg Value.bool rfl)) (fun _ => rfl) rfl ?_
    refine RS.off (dj := 26) rfl (.inl (congrArg Value.bool rfl)) (fun _ => rfl) rfl ?_
    refine RS.off (dj := 26) rfl (.inl (congrArg Value.bool rfl)) (fun _ => rfl) rfl ?_
    refine RS.q rfl (QO.pickF (by rfl) rfl (by rfl)) ?_
    refine RS.q rfl (QO.assign) ?_
    refine RS.nil ?_
    refine thenC_n ?_
    refine CS.ret ?_
    refine retQ.mk (H' := []) (.inr rfl) (RVs.tmp (by rfl) RVs.nil) (List.nil_sublist _) ?_
    exact ⟨congrArg Value.bool (by unfold atB; first | exact (decide_eq_false (by omega)).symm | exact decide_eq_decide.2 (by omega)), rfl⟩

set_option maxRecDepth 100000 in
theorem offset_ (X Y x y he : Int) (a i j o : Nat) (W : World) (hx : x = X + i) (hy : y = Y + j) (ho_ : o = 4 * (a * j + i)) (hX : -1048576 ≤ X ∧ X ≤ 1048576) (hY : -1048576 ≤ Y ∧ Y ≤ 1048576) (hi : i ≤ 1048576) (hj : j ≤ 1048576) (hob : o ≤ 1000000000) : Fn_ Tryd.prog 74 #[.agg #[iv X, iv Y, iv (a : Int), iv he], iv x, iv y] W (fun v H => v = iv (o : Int) ∧ H = []) := by
  have hmul : (j : Int) * (a : Int) = ((a * j : Nat) : Int) := by rw [Int.natCast_mul, Int.mul_comm]
  refine Fn_.intro Tryd.func74 rfl rfl (by rfl) ?_
  refine CS.seq ?_
  refine CS.region ?_
  refine RS.box rfl (by rfl) (by rfl) ?_
  intro g3
  refine RS.q rfl (QO.assign) ?_
  refine RS.nil ?_
  refine thenC_n ?_
  refine CS.seq ?_
  refine CS.region ?_
  refine RS.q rfl (QO.move) ?_
  refine RS.q rfl (QO.fieldAddr fo31_1 (by rfl)) ?_
  first | (refine RS.q rfl (QO.load ty3 (by rfl) (by repeat (first | exact List.Mem.head _ | refine List.Mem.tail _ ?_)) (by rfl)) ?_) | (refine RS.q rfl (QO.loadO ty3 (by rfl) (by assumption)) ?_) | (refine RS.q rfl (QO.load ty3 (by rfl) (by repeat (first | exact List.Mem.head _ | refine List.Mem.tail _ ?_)) (by assumption)) ?_)
  first | (refine RS.qv rfl (QO.sub (by rfl) (by rfl) (by omega) (by omega)) (congrArg iv (show y - Y = (j : Int) by omega)) ?_) | (refine RS.qv rfl (QO.ibin (by rfl) (by rfl) trivial) (congrArg iv (show y - Y = (j : Int) by omega)) ?_)
  refine RS.q rfl (QO.fieldAddr fo31_2 (by rfl)) ?_
  first | (refine RS.q rfl (QO.load ty3 (by rfl) (by repeat (first | exact List.Mem.head _ | refine List.Mem.tail _ ?_)) (by rfl)) ?_) | (refine RS.q rfl (QO.loadO ty3 (by rfl) (by assumption)) ?_) | (refine RS.q rfl (QO.load ty3 (by rfl) (by repeat (first | exact List.Mem.head _ | refine List.Mem.tail _ ?_)) (by assumption)) ?_)
  refine RS.qv rfl (QO.mul (by rfl) (by rfl) (by rw [hmul]; omega) (by rw [hmul]; omega)) (congrArg iv (show (j : Int) * (a : Int) = ((a * j : Nat) : Int) by rw [Int.natCast_mul, Int.mul_comm])) ?_
  refine RS.q rfl (QO.move) ?_
  first | (refine RS.q rfl (QO.add (by rfl) (by rfl) (by omega) (by omega)) ?_) | (refine RS.q rfl (QO.ibin (by rfl) (by rfl) trivial) ?_)
  refine RS.q rfl (QO.fieldAddr fo31_0 (by rfl)) ?_
  first | (refine RS.q rfl (QO.load ty3 (by rfl) (by repeat (first | exact List.Mem.head _ | refine List.Mem.tail _ ?_)) (by rfl)) ?_) | (refine RS.q rfl (QO.loadO ty3 (by rfl) (by assumption)) ?_) | (refine RS.q rfl (QO.load ty3 (by rfl) (by repeat (first | exact List.Mem.head _ | refine List.Mem.tail _ ?_)) (by assumption)) ?_)
  first | (refine RS.q rfl (QO.sub (by rfl) (by rfl) (by omega) (by omega)) ?_) | (refine RS.q rfl (QO.ibin (by rfl) (by rfl) trivial) ?_)
  first | (refine RS.qv rfl (QO.mul (by rfl) (by rfl) (by omega) (by omega)) (congrArg iv (show 4 * (((a * j : Nat) : Int) + x - X) = (o : Int) by rw [ho_]; omega)) ?_) | (refine RS.qv rfl (QO.ibin (by rfl) (by rfl) trivial) (congrArg iv (show 4 * (((a * j : Nat) : Int) + x - X) = (o : Int) by rw [ho_]; omega)) ?_)
  refine RS.q rfl (QO.assign) ?_
  refine RS.nil ?_
  refine thenC_n ?_
  refine CS.ret ?_
  refine retQ.mk (H' := []) (.inr rfl) (RVs.tmp (by rfl) RVs.nil) (List.nil_sublist _) ?_
  exact ⟨rfl, rfl⟩

def atE (x y X Y : Int) (a b : Nat) : Int := if atB x y X Y a b then 0 else 5
def atQ (xs : List Nat) (x y X Y : Int) (a b : Nat) (c : Nat) : Nat := if atB x y X Y a b then cl (pixF xs X Y a b x y c) else 0
/-- a pixel, cleaned as far as k -/
def ckL (q : Nat → Nat) (k : Nat) : List Value := [flt (if 0 < k then cl (q 0) else q 0), flt (if 1 < k then cl (q 1) else q 1), flt (if 2 < k then cl (q 2) else q 2), flt (if 3 < k then cl (q 3) else q 3)]
theorem ckL_set (q : Nat → Nat) (k : Nat) (hk : k < 4) : (ckL q k).set k (flt (cl (q k))) = ckL q (k + 1) := by
  match k, hk with
  | 0, _ => rfl
  | 1, _ => rfl
  | 2, _ => rfl
  | 3, _ => rfl
theorem ckL_at (q : Nat → Nat) (k : Nat) (hk : k < 4) : (ckL q k)[k]? = some (flt (q k)) := by
  match k, hk with
  | 0, _ => rfl
  | 1, _ => rfl
  | 2, _ => rfl
  | 3, _ => rfl
theorem at_place {x y X Y : Int} {a b : Nat} (h : atB x y X Y a b = true) : ∃ i j : Nat, x = X + i ∧ y = Y + j ∧ i < a ∧ j < b := by
  have := atB_T h
  exact ⟨(x - X).toNat, (y - Y).toNat, by omega, by omega, by omega, by omega⟩
theorem at_pix {xs : List Nat} {X Y : Int} {a b i j : Nat} (hi : i < a) (hj : j < b) (c : Nat) : pixF xs X Y a b (X + i) (Y + j) c = xs.getD (4 * (a * j + i) + c) 0 := by
  rw [pixF_at (near_in (by omega) (by omega)) (near_in (by omega) (by omega)), Nat.mul_comm a]
theorem at_bd {a b i j : Nat} (hi : i < a) (hj : j < b) : a * j + i < a * b := by
  have := (pix_bd hi hj).2.2
  rwa [Nat.mul_comm j] at this

theorem drop_pix {xs : List Nat} {X Y : Int} {a b i j o : Nat} (hi : i < a) (hj : j < b) (ho : o = 4 * (a * j + i)) : (fun k => (xs.drop o).getD k 0) = pixF xs X Y a b (X + i) (Y + j) := by
  funext c
  rw [at_pix hi hj, ← ho]
  simp [List.getD]
theorem atQ_T {xs : List Nat} {x y X Y : Int} {a b : Nat} (h : atB x y X Y a b = true) (c : Nat) : atQ xs x y X Y a b c = cl (pixF xs X Y a b x y c) := if_pos h
theorem atQ_F {xs : List Nat} {x y X Y : Int} {a b : Nat} (h : atB x y X Y a b = false) (c : Nat) : atQ xs x y X Y a b c = 0 := if_neg (by rw [h]; decide)
theorem pxe {q r : Nat → Nat} {e f : Int} (h : ∀ c, q c = r c) (h2 : e = f) : Value.tuple #[pxv q, iv e] = Value.tuple #[pxv r, iv f] := by obtain rfl : q = r := funext h; subst h2; rfl

set_option maxRecDepth 100000 in
theorem at_ (x y : Int) (X Y : Int) (a b : Nat) (A : Option Addr) (n c : Nat) (xs : List Nat) (W : World) (hn : xs.length = n) (hA : FS W A xs) (hN : n = 4 * (a * b)) (hc : n ≤ c) (hcm : c ≤ maxLen) (hX : -1048576 ≤ X ∧ X ≤ 1048576) (hY : -1048576 ≤ Y ∧ Y ≤ 1048576) (ha : 1 ≤ a ∧ a ≤ 256) (hb : 1 ≤ b ∧ b ≤ 256) (hfr : frErr X Y a b n = 0) : Fn_ Tryd.prog 19 #[.agg #[iv X, iv Y, iv (a : Int), iv (b : Int), .slice A n c], iv x, iv y] W (fun v H => v = .tuple #[pxv (atQ xs x y X Y a b), iv (atE x y X Y a b)] ∧ H = []) := by
  subst hn
  have hA' := hA
  obtain ⟨bA, oA, rfl, hcell⟩ := hA (by have := Nat.mul_le_mul ha.1 hb.1; omega)
  refine Fn_.intro Tryd.func19 rfl rfl (by rfl) ?_
  refine CS.seq ?_
  refine CS.region ?_
  refine RS.box rfl (by rfl) (by rfl) ?_
  intro g3
  refine RS.alloc rfl ty38 ?_
  intro g6
  refine RS.q rfl (QO.assign) ?_
  refine RS.nil ?_
  refine thenC_n ?_
  refine CS.seq ?_
  refine CS.seq ?_
  refine CS.region ?_
  first | (refine RS.q rfl (QO.loadB ty34 (by rfl) (by repeat (first | exact List.Mem.head _ | refine List.Mem.tail _ ?_)) (by rfl)) ?_) | (refine RS.q rfl (QO.loadA ty34 (by rfl) (by repeat (first | exact List.Mem.head _ | refine List.Mem.tail _ ?_)) (by rfl) (by rfl)) ?_) | (refine RS.q rfl (QO.loadOA ty34 (by rfl) (by assumption) (by rfl)) ?_)
  refine RS.call rfl (by rfl) ok15 (by rfl) (fun w ho => check _ _ _ _ _ _ _ _) ?_
  rintro _ _ ⟨rfl, rfl⟩
  refine RS.q rfl (QO.assign) ?_
  refine RS.nil ?_
  refine thenC_n ?_
  refine CS.seq ?_
  refine CS.region ?_
  refine RS.q rfl (QO.move) ?_
  refine RS.qv rfl (QO.neq (by rfl) (by rfl)) (congrArg Value.bool (show (frErr X Y (a : Int) (b : Int) xs.length != 0) = false from by rw [hfr]; rfl)) ?_
  refine RS.nil ?_
  refine thenC_n ?_
  refine CS.condF (by rfl) rfl ?_
  refine CS.skip ?_
  refine thenC_n ?_
  refine CS.seq ?_
  refine CS.seq ?_
  refine CS.region ?_
  refine RS.q rfl (QO.fieldAddr fo34_0 (by rfl)) ?_
  first | (refine RS.q rfl (QO.loadB ty31 (by rfl) (by repeat (first | exact List.Mem.head _ | refine List.Mem.tail _ ?_)) (by rfl)) ?_) | (refine RS.q rfl (QO.loadA ty31 (by rfl) (by repeat (first | exact List.Mem.head _ | refine List.Mem.tail _ ?_)) (by rfl) (by rfl)) ?_) | (refine RS.q rfl (QO.loadOA ty31 (by rfl) (by assumption) (by rfl)) ?_)
  refine RS.q rfl (QO.move) ?_
  refine RS.q rfl (QO.move) ?_
  refine RS.call rfl (by rfl) ok73 (by rfl) (fun w ho => has x y X Y a b _ hX hY ha.2 hb.2) ?_
  rintro _ _ ⟨rfl, rfl⟩
  refine RS.q rfl (QO.not (by rfl)) ?_
  refine RS.nil ?_
  refine thenC_n ?_
  refine CS.cond (by rfl) (fun hb0 => ?_) (fun hb0 => ?_)
  · have hb0p := Eq.mp (Bool.not_eq_true' _) hb0
    refine CS.seq ?_
    refine CS.region ?_
    refine RS.q rfl (QO.buildA Tryd.underlying38 ty38 ty36 (by rfl)) ?_
    first | refine RS.storeB ty38 (by rfl) (by rfl) (by rfl) (by rfl) (by rfl) (by repeat (first | exact Upd.head | apply Upd.tail)) (by rfl) ?_ | refine RS.storeP ty38 (by rfl) (by rfl) (by rfl) (by rfl) (by rfl) (by repeat (first | exact Upd.head | apply Upd.tail)) (by rfl) ?_
    refine RS.q rfl (QO.assign) ?_
    refine RS.nil ?_
    refine thenC_n ?_
    refine CS.ret ?_
    refine thenC_r ?_
    refine retQ.mk (H' := []) (.inr rfl) (RVs.cellA ty38 (by rfl) (by repeat (first | exact List.Mem.head _ | refine List.Mem.tail _ ?_)) (by rfl) (RVs.tmp (by rfl) RVs.nil)) (List.nil_sublist _) ?_
    exact ⟨pxe (fun c => (atQ_F hb0p c).symm) (if_neg (by rw [hb0p]; decide)).symm, rfl⟩
  · have hb0p := Eq.mp (Bool.not_eq_false' _) hb0
    refine CS.skip ?_
    refine thenC_n ?_
    refine CS.cut (X := Nat) (9 :: 10 :: 25 :: 26 :: 27 :: 28 :: 29 :: 30 :: 31 :: 32 :: 33 :: 34 :: 35 :: 36 :: []) (fun g => [(9, .pointer (some ⟨g, 0, none⟩)), (10, iv 0)]) (fun g => [⟨g, 38, [flt (pixF xs X Y a b x y 0), flt (pixF xs X Y a b x y 1), flt (pixF xs X Y a b x y 2), flt (pixF xs X Y a b x y 3)]⟩, ⟨g6, 38, [flt 0, flt 0, flt 0, flt 0]⟩, ⟨g3, 34, [iv X, iv Y, iv (a : Int), iv (b : Int), .slice (some ⟨bA, oA, none⟩) xs.length c]⟩]) (fun g => True) ?_ ?_
    · refine CS.draw 15 rfl (by kernel_rfl) (by kernel_rfl) ?_
      obtain ⟨i, j, rfl, rfl, hi, hj⟩ := at_place hb0p
      obtain ⟨o, ho_⟩ : ∃ o, o = 4 * (a * j + i) := ⟨_, rfl⟩
      have hbd := at_bd hi hj
      have hab2 := Nat.mul_le_mul ha.2 hb.2
      refine RT.take (i := 0) rfl (by kernel_rfl) rfl (QO.fieldAddr fo34_1 (by rfl)) ?_
      first | (refine RT.take (i := 1) rfl (by kernel_rfl) rfl (QO.load ty32 (by rfl) (by repeat (first | exact List.Mem.head _ | refine List.Mem.tail _ ?_)) (by rfl)) ?_) | (refine RT.take (i := 1) rfl (by kernel_rfl) rfl (QO.loadO ty32 (by rfl) (by assumption)) ?_) | (refine RT.take (i := 1) rfl (by kernel_rfl) rfl (QO.load ty32 (by rfl) (by repeat (first | exact List.Mem.head _ | refine List.Mem.tail _ ?_)) (by assumption)) ?_)
      refine RT.take (i := 2) rfl (by kernel_rfl) rfl (QO.fieldAddr fo34_0 (by rfl)) ?_
      first | (refine RT.take (i := 3) rfl (by kernel_rfl) rfl (QO.loadB ty31 (by rfl) (by repeat (first | exact List.Mem.head _ | refine List.Mem.tail _ ?_)) (by rfl)) ?_) | (refine RT.take (i := 3) rfl (by kernel_rfl) rfl (QO.loadA ty31 (by rfl) (by repeat (first | exact List.Mem.head _ | refine List.Mem.tail _ ?_)) (by rfl) (by rfl)) ?_) | (refine RT.take (i := 3) rfl (by kernel_rfl) rfl (QO.loadOA ty31 (by rfl) (by assumption) (by rfl)) ?_)
      refine RT.take (i := 4) rfl (by kernel_rfl) rfl (QO.move) ?_
      refine RT.take (i := 5) rfl (by kernel_rfl) rfl (QO.move) ?_
      refine RT.two (i := 6) (j := 12) (by kernel_rfl) rfl rfl ?_ ?_
      · refine RS.call rfl (by rfl) ok74 (by rfl) (fun w ho => offset_ X Y (X + i) (Y + j) b a i j o _ rfl rfl ho_ hX hY (by omega) (by omega) (by omega)) ?_
        rintro _ _ ⟨rfl, rfl⟩
        refine RS.nil ⟨(by repeat (first | exact List.Sublist.refl _ | exact List.nil_sublist _ | refine List.Sublist.cons_cons _ ?_ | refine List.Sublist.cons _ ?_ | exact Sbp.refl | exact Sbp.nil | refine Sbp.cons (by repeat (first | exact Rem.head | apply Rem.tail)) ?_ | exact Sbp.app | refine Sbp.skip ?_)), ?_⟩
        refine RT.takev (i := 7) rfl (by kernel_rfl) rfl (QO.cutLo Tryd.underlying32 ty36 (by rfl) (by rfl) (by omega) (by omega)) (show _ = Value.slice (cutAt bA oA o c 1) (xs.drop o).length (c - o) from by rw [List.length_drop]; rfl) ?_
        refine RT.two (i := 8) (j := 12) (by kernel_rfl) rfl rfl ?_ ?_
        · refine RS.call rfl (by rfl) ok16 (by rfl) (fun w ho => take_ _ _ _ (xs.drop o) _ rfl ((FS.drop hA' o hc).own ho) (by rw [List.length_drop]; omega) (by rw [List.length_drop]; omega) (by omega)) ?_
          rintro _ _ ⟨rfl, rfl⟩
          refine RS.nil ⟨(by repeat (first | exact List.Sublist.refl _ | exact List.nil_sublist _ | refine List.Sublist.cons_cons _ ?_ | refine List.Sublist.cons _ ?_ | exact Sbp.refl | exact Sbp.nil | refine Sbp.cons (by repeat (first | exact Rem.head | apply Rem.tail)) ?_ | exact Sbp.app | refine Sbp.skip ?_)), ?_⟩
          refine RT.take (i := 9) rfl (by kernel_rfl) rfl (QO.move) ?_
          refine RT.takev (i := 10) rfl (by kernel_rfl) rfl (QO.extract (by rfl) (by rfl)) (show pxv (fun k => (xs.drop o).getD k 0) = pxv (pixF xs X Y a b (X + i) (Y + j)) from congrArg pxv (drop_pix hi hj ho_)) ?_
          refine RT.take (i := 11) rfl (by kernel_rfl) rfl (QO.extract (by rfl) (by rfl)) ?_
          refine RT.one (i := 12) (by kernel_rfl) rfl rfl ?_
          refine RS.alloc rfl ty38 ?_
          intro g9
          refine RS.nil ⟨(by repeat (first | exact List.Sublist.refl _ | exact List.nil_sublist _ | refine List.Sublist.cons_cons _ ?_ | refine List.Sublist.cons _ ?_ | exact Sbp.refl | exact Sbp.nil | refine Sbp.cons (by repeat (first | exact Rem.head | apply Rem.tail)) ?_ | exact Sbp.app | refine Sbp.skip ?_)), ?_⟩
          refine RT.one (i := 13) (by kernel_rfl) rfl rfl ?_
          first | refine RS.storeB ty38 (by rfl) (by rfl) (by rfl) (by rfl) (by rfl) (by repeat (first | exact Upd.head | apply Upd.tail)) (by rfl) ?_ | refine RS.storeP ty38 (by rfl) (by rfl) (by rfl) (by rfl) (by rfl) (by repeat (first | exact Upd.head | apply Upd.tail)) (by rfl) ?_
          refine RS.nil ⟨(by repeat (first | exact List.Sublist.refl _ | exact List.nil_sublist _ | refine List.Sublist.cons_cons _ ?_ | refine List.Sublist.cons _ ?_ | exact Sbp.refl | exact Sbp.nil | refine Sbp.cons (by repeat (first | exact Rem.head | apply Rem.tail)) ?_ | exact Sbp.app | refine Sbp.skip ?_)), ?_⟩
          refine RT.take (i := 14) rfl (by kernel_rfl) rfl (QO.assign) ?_
          refine RT.done (by kernel_rfl) ?_
          refine cutQ_n (by intro t ht; repeat (first | with_reducible exact rfl | exact frame_puts ht (frame_mix ht) _ rfl | (refine frame_put rfl ht ?_) | (refine frame_puts ht ?_ _ rfl) | exact frame_mix ht | (refine frame_mix2 rfl ht ?_) | exact rfl)) ?_
          exact ⟨g9, trivial, (by repeat (first | exact kn_nil | refine kn_cons (by rfl) ?_)), (by repeat (first | exact List.Sublist.refl _ | exact List.nil_sublist _ | refine List.Sublist.cons_cons _ ?_ | refine List.Sublist.cons _ ?_ | exact Sbp.refl | exact Sbp.nil | refine Sbp.cons (by repeat (first | exact Rem.head | apply Rem.tail)) ?_ | exact Sbp.app | refine Sbp.skip ?_))⟩
        · refine RS.alloc rfl ty38 ?_
          intro g9
          refine RS.nil ⟨(by repeat (first | exact List.Sublist.refl _ | exact List.nil_sublist _ | refine List.Sublist.cons_cons _ ?_ | refine List.Sublist.cons _ ?_ | exact Sbp.refl | exact Sbp.nil | refine Sbp.cons (by repeat (first | exact Rem.head | apply Rem.tail)) ?_ | exact Sbp.app | refine Sbp.skip ?_)), ?_⟩
          refine RT.one (i := 8) (by kernel_rfl) rfl rfl ?_
          refine RS.call rfl (by rfl) ok16 (by rfl) (fun w ho => take_ _ _ _ (xs.drop o) _ rfl ((FS.drop hA' o hc).own ho) (by rw [List.length_drop]; omega) (by rw [List.length_drop]; omega) (by omega)) ?_
          rintro _ _ ⟨rfl, rfl⟩
          refine RS.nil ⟨(by repeat (first | exact List.Sublist.refl _ | exact List.nil_sublist _ | refine List.Sublist.cons_cons _ ?_ | refine List.Sublist.cons _ ?_ | exact Sbp.refl | exact Sbp.nil | refine Sbp.cons (by repeat (first | exact Rem.head | apply Rem.tail)) ?_ | exact Sbp.app | refine Sbp.skip ?_)), ?_⟩
          refine RT.take (i := 9) rfl (by kernel_rfl) rfl (QO.move) ?_
          refine RT.takev (i := 10) rfl (by kernel_rfl) rfl (QO.extract (by rfl) (by rfl)) (show pxv (fun k => (xs.drop o).getD k 0) = pxv (pixF xs X Y a b (X + i) (Y + j)) from congrArg pxv (drop_pix hi hj ho_)) ?_
          refine RT.take (i := 11) rfl (by kernel_rfl) rfl (QO.extract (by rfl) (by rfl)) ?_
          refine RT.one (i := 13) (by kernel_rfl) rfl rfl ?_
          first | refine RS.storeB ty38 (by rfl) (by rfl) (by rfl) (by rfl) (by rfl) (by repeat (first | exact Upd.head | apply Upd.tail)) (by rfl) ?_ | refine RS.storeP ty38 (by rfl) (by rfl) (by rfl) (by rfl) (by rfl) (by repeat (first | exact Upd.head | apply Upd.tail)) (by rfl) ?_
          refine RS.nil ⟨(by repeat (first | exact List.Sublist.refl _ | exact List.nil_sublist _ | refine List.Sublist.cons_cons _ ?_ | refine List.Sublist.cons _ ?_ | exact Sbp.refl | exact Sbp.nil | refine Sbp.cons (by repeat (first | exact Rem.head | apply Rem.tail)) ?_ | exact Sbp.app | refine Sbp.skip ?_)), ?_⟩
          refine RT.take (i := 14) rfl (by kernel_rfl) rfl (QO.assign) ?_
          refine RT.done (by kernel_rfl) ?_
          refine cutQ_n (by intro t ht; repeat (first | with_reducible exact rfl | exact frame_puts ht (frame_mix ht) _ rfl | (refine frame_put rfl ht ?_) | (refine frame_puts ht ?_ _ rfl) | exact frame_mix ht | (refine frame_mix2 rfl ht ?_) | exact rfl)) ?_
          exact ⟨g9, trivial, (by repeat (first | exact kn_nil | refine kn_cons (by rfl) ?_)), (by repeat (first | exact List.Sublist.refl _ | exact List.nil_sublist _ | refine List.Sublist.cons_cons _ ?_ | refine List.Sublist.cons _ ?_ | exact Sbp.refl | exact Sbp.nil | refine Sbp.cons (by repeat (first | exact Rem.head | apply Rem.tail)) ?_ | exact Sbp.app | refine Sbp.skip ?_))⟩
      · refine RS.alloc rfl ty38 ?_
        intro g9
        refine RS.nil ⟨(by repeat (first | exact List.Sublist.refl _ | exact List.nil_sublist _ | refine List.Sublist.cons_cons _ ?_ | refine List.Sublist.cons _ ?_ | exact Sbp.refl | exact Sbp.nil | refine Sbp.cons (by repeat (first | exact Rem.head | apply Rem.tail)) ?_ | exact Sbp.app | refine Sbp.skip ?_)), ?_⟩
        refine RT.one (i := 6) (by kernel_rfl) rfl rfl ?_
        refine RS.call rfl (by rfl) ok74 (by rfl) (fun w ho => offset_ X Y (X + i) (Y + j) b a i j o _ rfl rfl ho_ hX hY (by omega) (by omega) (by omega)) ?_
        rintro _ _ ⟨rfl, rfl⟩
        refine RS.nil ⟨(by repeat (first | exact List.Sublist.refl _ | exact List.nil_sublist _ | refine List.Sublist.cons_cons _ ?_ | refine List.Sublist.cons _ ?_ | exact Sbp.refl | exact Sbp.nil | refine Sbp.cons (by repeat (first | exact Rem.head | apply Rem.tail)) ?_ | exact Sbp.app | refine Sbp.skip ?_)), ?_⟩
        refine RT.takev (i := 7) rfl (by kernel_rfl) rfl (QO.cutLo Tryd.underlying32 ty36 (by rfl) (by rfl) (by omega) (by omega)) (show _ = Value.slice (cutAt bA oA o c 1) (xs.drop o).length (c - o) from by rw [List.length_drop]; rfl) ?_
        refine RT.one (i := 8) (by kernel_rfl) rfl rfl ?_
        refine RS.call rfl (by rfl) ok16 (by rfl) (fun w ho => take_ _ _ _ (xs.drop o) _ rfl ((FS.drop hA' o hc).own ho) (by rw [List.length_drop]; omega) (by rw [List.length_drop]; omega) (by omega)) ?_
        rintro _ _ ⟨rfl, rfl⟩
        refine RS.nil ⟨(by repeat (first | exact List.Sublist.refl _ | exact List.nil_sublist _ | refine List.Sublist.cons_cons _ ?_ | refine List.Sublist.cons _ ?_ | exact Sbp.refl | exact Sbp.nil | refine Sbp.cons (by repeat (first | exact Rem.head | apply Rem.tail)) ?_ | exact Sbp.app | refine Sbp.skip ?_)), ?_⟩
        refine RT.take (i := 9) rfl (by kernel_rfl) rfl (QO.move) ?_
        refine RT.takev (i := 10) rfl (by kernel_rfl) rfl (QO.extract (by rfl) (by rfl)) (show pxv (fun k => (xs.drop o).getD k 0) = pxv (pixF xs X Y a b (X + i) (Y + j)) from congrArg pxv (drop_pix hi hj ho_)) ?_
        refine RT.take (i := 11) rfl (by kernel_rfl) rfl (QO.extract (by rfl) (by rfl)) ?_
        refine RT.one (i := 13) (by kernel_rfl) rfl rfl ?_
        first | refine RS.storeB ty38 (by rfl) (by rfl) (by rfl) (by rfl) (by rfl) (by repeat (first | exact Upd.head | apply Upd.tail)) (by rfl) ?_ | refine RS.storeP ty38 (by rfl) (by rfl) (by rfl) (by rfl) (by rfl) (by repeat (first | exact Upd.head | apply Upd.tail)) (by rfl) ?_
        refine RS.nil ⟨(by repeat (first | exact List.Sublist.refl _ | exact List.nil_sublist _ | refine List.Sublist.cons_cons _ ?_ | refine List.Sublist.cons _ ?_ | exact Sbp.refl | exact Sbp.nil | refine Sbp.cons (by repeat (first | exact Rem.head | apply Rem.tail)) ?_ | exact Sbp.app | refine Sbp.skip ?_)), ?_⟩
        refine RT.take (i := 14) rfl (by kernel_rfl) rfl (QO.assign) ?_
        refine RT.done (by kernel_rfl) ?_
        refine cutQ_n (by intro t ht; repeat (first | with_reducible exact rfl | exact frame_puts ht (frame_mix ht) _ rfl | (refine frame_put rfl ht ?_) | (refine frame_puts ht ?_ _ rfl) | exact frame_mix ht | (refine frame_mix2 rfl ht ?_) | exact rfl)) ?_
        exact ⟨g9, trivial, (by repeat (first | exact kn_nil | refine kn_cons (by rfl) ?_)), (by repeat (first | exact List.Sublist.refl _ | exact List.nil_sublist _ | refine List.Sublist.cons_cons _ ?_ | refine List.Sublist.cons _ ?_ | exact Sbp.refl | exact Sbp.nil | refine Sbp.cons (by repeat (first | exact Rem.head | apply Rem.tail)) ?_ | exact Sbp.app | refine Sbp.skip ?_))⟩
    · intro g gj hz
      refine CS.seq ?_
      refine CS.seq ?_
      refine CS.region ?_
      refine RS.q rfl (QO.move) ?_
      refine RS.nil ?_
      refine thenC_n ?_
      refine CS.block ?_
      refine CS.loop (X := Nat) [11, 37, 38, 39, 40, 41, 42, 43, 44, 45, 46] (fun k => [(37, iv (k : Int))]) (fun k => [⟨g, 38, ckL (pixF xs X Y a b x y) k⟩, ⟨g6, 38, [flt 0, flt 0, flt 0, flt 0]⟩, ⟨g3, 34, [iv X, iv Y, iv (a : Int), iv (b : Int), .slice (some ⟨bA, oA, none⟩) xs.length c]⟩]) (fun k => k ≤ 4) (fun k => 4 - k) 0 (by omega) ?_ ?_ ?_
      · exact (by repeat (first | exact kn_nil | refine kn_cons (by rfl) ?_))
      · exact (by repeat (first | exact List.Sublist.refl _ | exact List.nil_sublist _ | refine List.Sublist.cons_cons _ ?_ | refine List.Sublist.cons _ ?_ | exact Sbp.refl | exact Sbp.nil | refine Sbp.cons (by repeat (first | exact Rem.head | apply Rem.tail)) ?_ | exact Sbp.app | refine Sbp.skip ?_))
      · intro k gj8 hz
        refine CS.seq ?_
        refine CS.region ?_
        refine RS.q rfl (QO.lss (by rfl) (by rfl)) ?_
        refine RS.nil ?_
        refine thenC_n ?_
        refine CS.seq ?_
        refine CS.cond (by rfl) (fun hb1 => ?_) (fun hb1 => ?_)
        · have hb1p := of_decide_eq_true hb1
          refine CS.skip ?_
          refine thenC_n ?_
          refine CS.seq ?_
          refine CS.block ?_
          refine CS.seq ?_
          refine CS.region ?_
          refine RS.q rfl (QO.move) ?_
          refine RS.q rfl (QO.assign) ?_
          refine RS.nil ?_
          refine thenC_n ?_
          refine CS.region ?_
          refine RS.q rfl (QO.move) ?_
          refine RS.q rfl (QO.move) ?_
          first | (refine RS.q rfl (QO.idxArr0 Tryd.underlying38 ty36 (by rfl) (by rfl) (by rfl) (by omega)) ?_) | (refine RS.q rfl (QO.idxArrn Tryd.underlying38 ty36 (by rfl) (by rfl) (by rfl) (by omega)) ?_) | (refine RS.q rfl (QO.idxArr Tryd.underlying38 ty36 (by rfl) (by rfl) (by omega) (by omega)) ?_)
          refine RS.q rfl (QO.load ty36 (by rfl) (by repeat (first | exact List.Mem.head _ | refine List.Mem.tail _ ?_)) (ckL_at _ k (by omega))) ?_
          refine RS.call rfl (by rfl) ok75 (by rfl) (fun w ho => clean _ _) ?_
          rintro _ _ ⟨rfl, rfl⟩
          first | (refine RS.q rfl (QO.idxArr0 Tryd.underlying38 ty36 (by rfl) (by rfl) (by rfl) (by omega)) ?_) | (refine RS.q rfl (QO.idxArrn Tryd.underlying38 ty36 (by rfl) (by rfl) (by rfl) (by omega)) ?_) | (refine RS.q rfl (QO.idxArr Tryd.underlying38 ty36 (by rfl) (by rfl) (by omega) (by omega)) ?_)
          refine RS.store1e ty36 rfl (by rfl) (by rfl) (by rfl) (ckL_set _ k (by omega)) (by repeat (first | exact Upd.head | apply Upd.tail)) (by show k < 4; omega) ?_
          refine RS.nil ?_
          refine blockC_n ?_
          refine thenC_n ?_
          refine CS.region ?_
          first | (refine RS.q rfl (QO.add (by rfl) (by rfl) (by omega) (by omega)) ?_) | (refine RS.q rfl (QO.ibin (by rfl) (by rfl) trivial) ?_)
          refine RS.q rfl (QO.move) ?_
          refine RS.nil ?_
          refine loopQ_n (by intro t ht; repeat (first | with_reducible exact rfl | exact frame_puts ht (frame_mix ht) _ rfl | (refine frame_put rfl ht ?_) | (refine frame_puts ht ?_ _ rfl) | exact frame_mix ht | (refine frame_mix2 rfl ht ?_) | exact rfl)) ?_
          exact ⟨k + 1, by omega, by omega, (by repeat (first | exact kn_nil | refine kn_cons (by rfl) ?_)), (by repeat (first | exact List.Sublist.refl _ | exact List.nil_sublist _ | refine List.Sublist.cons_cons _ ?_ | refine List.Sublist.cons _ ?_ | exact Sbp.refl | exact Sbp.nil | refine Sbp.cons (by repeat (first | exact Rem.head | apply Rem.tail)) ?_ | exact Sbp.app | refine Sbp.skip ?_))⟩
        · have hb1p := of_decide_eq_false hb1
          refine CS.exit ?_
          refine thenC_x ?_
          refine loopQ_x ?_
          refine blockC_x ?_
          refine thenC_n ?_
          refine CS.seq ?_
          refine CS.region ?_
          first | (refine RS.q rfl (QO.loadB ty38 (by rfl) (by repeat (first | exact List.Mem.head _ | refine List.Mem.tail _ ?_)) (by rfl)) ?_) | (refine RS.q rfl (QO.loadA ty38 (by rfl) (by repeat (first | exact List.Mem.head _ | refine List.Mem.tail _ ?_)) (by rfl) (by rfl)) ?_) | (refine RS.q rfl (QO.loadOA ty38 (by rfl) (by assumption) (by rfl)) ?_)
          refine RS.q rfl (QO.move) ?_
          first | refine RS.storeB ty38 (by rfl) (by rfl) (by rfl) (by rfl) (by rfl) (by repeat (first | exact Upd.head | apply Upd.tail)) (by rfl) ?_ | refine RS.storeP ty38 (by rfl) (by rfl) (by rfl) (by rfl) (by rfl) (by repeat (first | exact Upd.head | apply Upd.tail)) (by rfl) ?_
          refine RS.q rfl (QO.assign) ?_
          refine RS.nil ?_
          refine thenC_n ?_
          refine CS.ret ?_
          refine retQ.mk (H' := []) (.inr rfl) (RVs.cellA ty38 (by rfl) (by repeat (first | exact List.Mem.head _ | refine List.Mem.tail _ ?_)) (by rfl) (RVs.tmp (by rfl) RVs.nil)) (List.nil_sublist _) ?_
          obtain rfl : k = 4 := by omega
          exact ⟨pxe (fun c => (atQ_T hb0p c).symm) (if_pos hb0p).symm, rfl⟩

/-- a frame of one pixel: its numbers -/
def fillV (q : Nat → Nat) (N : Nat) : List Nat := (List.range N).map fun i => cl (q (i % 4))
theorem fillV_len (q : Nat → Nat) (N : Nat) : (fillV q N).length = N := by simp [fillV]
theorem fillV_made (q : Nat → Nat) (X Y : Int) (a N : Nat) : madeV (fun _ _ c => q c) X Y a N = fillV q N := rfl

def putF (xs : List Nat) (q : Nat → Nat) (o : Nat) (i : Nat) : Nat := if o ≤ i ∧ i < o + 4 then q (i - o) else xs.getD i 0
theorem put_T {xs : List Nat} {q : Nat → Nat} {o i : Nat} (h : o ≤ i) (h2 : i < o + 4) : q (i - o) = putF xs q o i := (if_pos ⟨h, h2⟩).symm
theorem put_F {xs : List Nat} {q : Nat → Nat} {o i : Nat} (h : ¬ (o ≤ i ∧ i < o + 4)) : xs.getD i 0 = putF xs q o i := (if_neg h).symm
def putV (xs : List Nat) (q : Nat → Nat) (X Y : Int) (a b : Nat) (x y : Int) : List Nat := overV (xs.map cl) (fillV q 4) X Y a b x y 1 1
theorem put_at {q : Nat → Nat} {x y : Int} (c : Nat) (hc : c < 4) : pixF (fillV q 4) x y 1 1 x y c = cl (q c) := by
  have h := pixF_at (xs := fillV q 4) (x := x) (y := y) (w := 1) (h := 1) (X := x) (Y := y) (i := 0) (j := 0) (by unfold near; omega) (by unfold near; omega) c
  rw [h]
  match c, hc with
  | 0, _ => rfl
  | 1, _ => rfl
  | 2, _ => rfl
  | 3, _ => rfl
theorem put_over {xs : List Nat} {q : Nat → Nat} {X Y : Int} {a b i j o : Nat} (hl : xs.length = 4 * (a * b)) (hi : i < a) (hj : j < b) (ho : o = 4 * (a * j + i)) :
    ((List.range (4 * (a * b))).map fun k => cl (putF xs q o k)) = putV xs q X Y a b (X + i) (Y + j) := by
  unfold putV overV mixL
  apply List.map_congr_left
  intro k hk
  have hk := List.mem_range.1 hk
  have ha : 0 < a := by omega
  have hp := pos_of (i := k) ha
  have h1 : k / 4 / a < b := by rw [Nat.div_lt_iff_lt_mul ha, Nat.mul_comm]; omega
  have hn := place_of (a := a) (c := i) (r := j) (x := 0) hi (by omega)
  by_cases e : k / 4 / a = j ∧ k / 4 % a = i
  · have hB : atB (X + ((k / 4 % a : Nat) : Int)) (Y + ((k / 4 / a : Nat) : Int)) (X + i) (Y + j) (1 : Nat) (1 : Nat) = true := by
      rw [e.1, e.2]; unfold atB; apply decide_eq_true; omega
    refine Eq.trans ?_ (if_pos hB).symm
    have e3 : k = o + k % 4 := by rw [ho, ← e.1, ← e.2]; exact hp.1
    rw [← put_T (xs := xs) (by omega : o ≤ k) (by omega)]
    unfold madeF
    rw [e.1, e.2, put_at _ (Nat.mod_lt _ (by omega)), cl_cl, show k - o = k % 4 by omega]
  · have hB : atB (X + ((k / 4 % a : Nat) : Int)) (Y + ((k / 4 / a : Nat) : Int)) (X + i) (Y + j) (1 : Nat) (1 : Nat) = false := by
      unfold atB; apply decide_eq_false
      generalize k / 4 / a = r at *
      generalize k / 4 % a = s at *
      omega
    rw [if_neg (show ¬ atB _ _ _ _ _ _ = true by rw [hB]; decide), ← put_F (fun hh => e ?_)]
    · simp only [List.getD, List.getElem?_map]
      rw [List.getElem?_eq_getElem (show k < xs.length by omega)]
      rfl
    · have e3 : k = 4 * (a * j + i) + (k - o) := by omega
      have h5 := place_of (a := a) (c := i) (r := j) (x := k - o) hi (by omega)
      rw [← e3] at h5
      exact ⟨h5.1, h5.2.1⟩
theorem putV_len (xs : List Nat) (q : Nat → Nat) (X Y : Int) (a b : Nat) (x y : Int) : (putV xs q X Y a b x y).length = 4 * (a * b) := overV_len ..

set_option maxRecDepth 100000 in
theorem clean1 (k g3 : Nat) (X Y : Int) (a b : Nat) (A : Option Addr) (n c : Nat) (xs : List Nat) (W : World) (hg3 : ∀ j v, [iv X, iv Y, iv (a : Int), iv (b : Int), .slice A n c][j]? = some v → W.cell? ((⟨g3, 0, none⟩ : Addr).add j) = some v) (hn : xs.length = n) (hA : FS W A xs) (hk : k < n) : Fn_ Tryd.prog 72 #[iv (k : Int), .pointer (some ⟨g3, 0, none⟩)] W (fun v H => v = flt (xs.getD k 0) ∧ H = []) := by
  obtain ⟨bA, oA, rfl, hcA⟩ := hA.at_ k (by omega)
  refine Fn_.intro Tryd.func72 rfl rfl (by rfl) ?_
  refine CS.seq ?_
  refine CS.region ?_
  refine RS.q rfl (QO.assign) ?_
  refine RS.nil ?_
  refine thenC_n ?_
  refine CS.seq ?_
  refine CS.region ?_
  refine RS.q rfl (QO.fieldAddr fo34_1 (by rfl)) ?_
  refine RS.q rfl (QO.loadO ty32 (by rfl) (by have := hg3 4 _ rfl; rwa [addr_add] at this)) ?_
  refine RS.q rfl (QO.move) ?_
  first | (refine RS.q rfl (QO.idx0 Tryd.underlying32 ty36 (by rfl) (by rfl) (by rfl) (by omega)) ?_) | (refine RS.q rfl (QO.idxn Tryd.underlying32 ty36 (by rfl) (by rfl) (by rfl) (by omega)) ?_) | (refine RS.q rfl (QO.idx1 Tryd.underlying32 ty36 (by rfl) (by rfl) (by omega) (by omega)) ?_)
  refine RS.q rfl (QO.loadO ty36 (by rfl) hcA) ?_
  refine RS.q rfl (QO.assign) ?_
  refine RS.nil ?_
  refine thenC_n ?_
  refine CS.ret ?_
  refine retQ.mk (H' := []) (.inr rfl) (RVs.tmp (by rfl) RVs.nil) (List.nil_sublist _) ?_
  exact ⟨rfl, rfl⟩

theorem map_cl_eq {xs : List Nat} {n : Nat} (h : xs.length = n) : ((List.range n).map fun i => cl (xs.getD i 0)) = xs.map cl := by
  subst h
  apply List.ext_getElem
  · simp
  · intro i h1 h2
    simp only [List.getElem_map, List.getElem_range]
    rw [getD_at]

set_option maxRecDepth 100000 in
theorem clean_ (X Y : Int) (a b : Nat) (A : Option Addr) (n c : Nat) (xs : List Nat) (W : World) (hn : xs.length = n) (hA : FS W A xs) (hN : n = 4 * (a * b)) (hc : n ≤ c) (hcm : c ≤ maxLen) (hX : -1048576 ≤ X ∧ X ≤ 1048576) (hY : -1048576 ≤ Y ∧ Y ≤ 1048576) (ha : 1 ≤ a ∧ a ≤ 256) (hb : 1 ≤ b ∧ b ≤ 256) (hfr : frErr X Y a b n = 0) : Fn_ Tryd.prog 18 #[.agg #[iv X, iv Y, iv (a : Int), iv (b : Int), .slice A n c]] W (fun v H => ∃ g, v = .tuple #[.agg #[iv X, iv Y, iv (a : Int), iv (b : Int), .slice (some ⟨g, 0, none⟩) n n], iv 0] ∧ H = [⟨g, 36, (xs.map cl).map flt⟩]) := by
  subst hn
  have hab1 := Nat.mul_le_mul ha.1 hb.1
  have hab2 := Nat.mul_le_mul ha.2 hb.2
  have hcast : ((a * b : Nat) : Int) = (a : Int) * (b : Int) := Int.natCast_mul ..
  have h41 : 4 * (a : Int) * (b : Int) = 4 * ((a : Int) * (b : Int)) := Int.mul_assoc ..
  have hcm2 := hcm
  unfold maxLen at hcm2
  refine Fn_.intro Tryd.func18 rfl rfl (by rfl) ?_
  refine CS.seq ?_
  refine CS.region ?_
  refine RS.box rfl (by rfl) (by rfl) ?_
  intro g1
  refine RS.alloc rfl ty34 ?_
  intro g2
  refine RS.q rfl (QO.assign) ?_
  refine RS.nil ?_
  refine thenC_n ?_
  refine CS.seq ?_
  refine CS.seq ?_
  refine CS.region ?_
  first | (refine RS.q rfl (QO.loadB ty34 (by rfl) (by repeat (first | exact List.Mem.head _ | refine List.Mem.tail _ ?_)) (by rfl)) ?_) | (refine RS.q rfl (QO.loadA ty34 (by rfl) (by repeat (first | exact List.Mem.head _ | refine List.Mem.tail _ ?_)) (by rfl) (by rfl)) ?_) | (refine RS.q rfl (QO.loadOA ty34 (by rfl) (by assumption) (by rfl)) ?_)
  refine RS.call rfl (by rfl) ok15 (by rfl) (fun w ho => check _ _ _ _ _ _ _ _) ?_
  rintro _ _ ⟨rfl, rfl⟩
  refine RS.q rfl (QO.assign) ?_
  refine RS.nil ?_
  refine thenC_n ?_
  refine CS.seq ?_
  refine CS.region ?_
  refine RS.q rfl (QO.move) ?_
  refine RS.qv rfl (QO.neq (by rfl) (by rfl)) (congrArg Value.bool (show (frErr X Y (a : Int) (b : Int) xs.length != 0) = false from by rw [hfr]; rfl)) ?_
  refine RS.nil ?_
  refine thenC_n ?_
  refine CS.condF (by rfl) rfl ?_
  refine CS.skip ?_
  refine thenC_n ?_
  refine CS.seq ?_
  refine CS.region ?_
  refine RS.q rfl (QO.fieldAddr fo34_0 (by rfl)) ?_
  first | (refine RS.q rfl (QO.loadB ty31 (by rfl) (by repeat (first | exact List.Mem.head _ | refine List.Mem.tail _ ?_)) (by rfl)) ?_) | (refine RS.q rfl (QO.loadA ty31 (by rfl) (by repeat (first | exact List.Mem.head _ | refine List.Mem.tail _ ?_)) (by rfl) (by rfl)) ?_) | (refine RS.q rfl (QO.loadOA ty31 (by rfl) (by assumption) (by rfl)) ?_)
  refine RS.q rfl (QO.makeFunc) ?_
  refine RS.call rfl (by rfl) ok71 (by rfl) (fun w ho => each X Y a b xs.length 72 _ (fun i => xs.getD i 0) _ (by omega) (by omega) (by omega) (by omega) (by kernel_rfl) (fun wd Hd hd k hk => clean1 k g1 X Y a b A _ c xs wd (fun j v hj => hd.old (ho.cellAt (by repeat (first | exact List.Mem.head _ | refine List.Mem.tail _ ?_)) hj)) rfl ((hA.own ho).own hd) hk)) ?_
  rintro _ _ ⟨ge, rfl, rfl⟩
  first | refine RS.storeB ty34 (by rfl) (by rfl) (by rfl) (by rfl) (by rfl) (by repeat (first | exact Upd.head | apply Upd.tail)) (by rfl) ?_ | refine RS.storeP ty34 (by rfl) (by rfl) (by rfl) (by rfl) (by rfl) (by repeat (first | exact Upd.head | apply Upd.tail)) (by rfl) ?_
  refine RS.q rfl (QO.assign) ?_
  refine RS.nil ?_
  refine thenC_n ?_
  refine CS.ret ?_
  refine retQ.mk (H' := [⟨ge, 36, (xs.map cl).map flt⟩]) (.inr rfl) (RVs.cellA ty34 (by rfl) (by repeat (first | exact List.Mem.head _ | refine List.Mem.tail _ ?_)) (by rfl) (RVs.tmp (by rfl) RVs.nil)) (by rw [← map_cl_eq rfl]; exact (by repeat (first | exact List.Sublist.refl _ | exact List.nil_sublist _ | refine List.Sublist.cons_cons _ ?_ | refine List.Sublist.cons _ ?_ | exact Sbp.refl | exact Sbp.nil | refine Sbp.cons (by repeat (first | exact Rem.head | apply Rem.tail)) ?_ | exact Sbp.app | refine Sbp.skip ?_))) ?_
  exact ⟨ge, rfl, rfl⟩

theorem cmT_F {ax ay aw ah bx bz bw bh : Int} (h : cmB ax ay aw ah bx bz bw bh = false) : cmT ax ay aw ah bx bz bw bh = (0, 0, 0, 0) := if_neg (by rw [h]; decide)

theorem row_bd {a b r p w : Nat} (hp : p + w ≤ a) (hr : r < b) : a * r + p + w ≤ a * b := by
  have h1 : a * (r + 1) ≤ a * b := Nat.mul_le_mul_left a hr
  rw [Nat.mul_add] at h1
  omega

def cutE (rx ry rw_ rh X Y a b : Int) : Int := if regErr rx ry rw_ rh ≠ 0 then regErr rx ry rw_ rh else if insB rx ry rw_ rh X Y a b then 0 else 5
def cutV (xs : List Nat) (X Y : Int) (a b : Nat) (rx ry rw_ rh : Int) : List Nat := madeV (pixF xs X Y a b) rx ry rw_.toNat (4 * (rw_.toNat * rh.toNat))
theorem insB_T {ax ay aw ah bx bz bw bh : Int} (h : insB ax ay aw ah bx bz bw bh = true) : bx ≤ ax ∧ bz ≤ ay ∧ ax ≤ bx + bw - aw ∧ ay ≤ bz + bh - ah := of_decide_eq_true h
theorem cut_1 {rx ry rw_ rh X Y a b : Int} (h : regErr rx ry rw_ rh ≠ 0) : cutE rx ry rw_ rh X Y a b = regErr rx ry rw_ rh := if_pos h
theorem cut_2 {rx ry rw_ rh X Y a b : Int} (h : regErr rx ry rw_ rh = 0) (h2 : insB rx ry rw_ rh X Y a b = false) : cutE rx ry rw_ rh X Y a b = 5 := by unfold cutE; rw [if_neg (by simpa using h), if_neg (by rw [h2]; decide)]
theorem cut_3 {rx ry rw_ rh X Y a b : Int} (h : regErr rx ry rw_ rh = 0) (h2 : insB rx ry rw_ rh X Y a b = true) : cutE rx ry rw_ rh X Y a b = 0 := by unfold cutE; rw [if_neg (by simpa using h), if_pos h2]
theorem repl_flt (n : Nat) : List.replicate n (flt 0) = (List.replicate n 0).map flt := by simp

theorem two_at3 (X Y X2 Y2 : Int) (a b a2 b2 : Int) (A A2 : Option Addr) (n n2 c c2 k : Nat) (h : k < 2) :
    (([iv X, iv Y, iv a, iv b, Value.slice A n c, iv X2, iv Y2, iv a2, iv b2, Value.slice A2 n2 c2] : List Value).drop (0 + ((k : Nat) : Int).toNat * 5)).take 5 = [iv (f2 X X2 k), iv (f2 Y Y2 k), iv (f2 a a2 k), iv (f2 b b2 k), Value.slice (f2 A A2 k) (f2 n n2 k) (f2 c c2 k)] := by
  match k, h with
  | 0, _ => rfl
  | 1, _ => rfl
def pstE (X Y a b X2 Y2 a2 b2 : Int) : Int := if cmB X Y a b X2 Y2 a2 b2 then 0 else 5
def pstV (xs zs : List Nat) (X Y : Int) (a b : Nat) (X2 Y2 : Int) (a2 b2 : Nat) : List Nat := madeV (pasteF xs zs X Y a b X2 Y2 a2 b2) X Y a (4 * (a * b))
theorem pstV_len (xs zs : List Nat) (X Y : Int) (a b : Nat) (X2 Y2 : Int) (a2 b2 : Nat) : (pstV xs zs X Y a b X2 Y2 a2 b2).length = 4 * (a * b) := madeV_len ..

theorem mtake_more {xs ys : List Nat} {k : Nat} (h : (xs.map cl).take k = (ys.map cl).take k) (h1 : k < xs.length) (h2 : k < ys.length) (he : ((cl xs[k] : Nat) : Int) = (cl ys[k] : Nat)) : (xs.map cl).take (k + 1) = (ys.map cl).take (k + 1) :=
  take_more h (by simpa using h1) (by simpa using h2) (by simpa using he)
theorem mdiffers {xs ys : List Nat} {k : Nat} (h1 : k < xs.length) (h2 : k < ys.length) (he : ((cl xs[k] : Nat) : Int) ≠ (cl ys[k] : Nat)) : ¬ xs.map cl = ys.map cl := fun h => he (by
  have h3 : (xs.map cl)[k]? = (ys.map cl)[k]? := by rw [h]
  simp only [List.getElem?_map, List.getElem?_eq_getElem h1, List.getElem?_eq_getElem h2, Option.map_some, Option.some.injEq] at h3
  exact congrArg Nat.cast h3)
/-- are two frames the same -/
def sameB (x y wi he x' y' wi' he' : Int) (xs xs' : List Nat) : Bool := decide ([x, y, wi, he] = [x', y', wi', he'] ∧ xs.map cl = xs'.map cl)

set_option maxRecDepth 100000 in
theorem same_ (x y wi he x' y' wi' he' : Int) (A A' : Option Addr) (n n' c c' : Nat) (xs xs' : List Nat) (W : World) (hn : xs.length = n) (hn' : xs'.length = n') (hA : FS W A xs) (hA' : FS W A' xs') (hm : n ≤ maxLen) : Fn_ Tryd.prog 24 #[.agg #[iv x, iv y, iv wi, iv he, .slice A n c], .agg #[iv x', iv y', iv wi', iv he', .slice A' n' c']] W (fun v H => v = .bool (sameB x y wi he x' y' wi' he' xs xs') ∧ H = []) := by
  unfold maxLen at hm
  refine Fn_.intro Tryd.func24 rfl rfl (by rfl) ?_
  refine CS.seq ?_
  refine CS.region ?_
  refine RS.box rfl (by rfl) (by rfl) ?_
  intro g2
  refine RS.box rfl (by rfl) (by rfl) ?_
  intro g3
  refine RS.q rfl (QO.assign) ?_
  refine RS.nil ?_
  refine thenC_n ?_
  refine CS.seq ?_
  refine CS.seq ?_
  refine CS.region ?_
  refine RS.q rfl (QO.fieldAddr fo34_0 (by rfl)) ?_
  first | (refine RS.q rfl (QO.loadB ty31 (by rfl) (by repeat (first | exact List.Mem.head _ | refine List.Mem.tail _ ?_)) (by rfl)) ?_) | (refine RS.q rfl (QO.loadA ty31 (by rfl) (by repeat (first | exact List.Mem.head _ | refine List.Mem.tail _ ?_)) (by rfl) (by rfl)) ?_) | (refine RS.q rfl (QO.loadOA ty31 (by rfl) (by assumption) (by rfl)) ?_)
  refine RS.q rfl (QO.fieldAddr fo34_0 (by rfl)) ?_
  first | (refine RS.q rfl (QO.loadB ty31 (by rfl) (by repeat (first | exact List.Mem.head _ | refine List.Mem.tail _ ?_)) (by rfl)) ?_) | (refine RS.q rfl (QO.loadA ty31 (by rfl) (by repeat (first | exact List.Mem.head _ | refine List.Mem.tail _ ?_)) (by rfl) (by rfl)) ?_) | (refine RS.q rfl (QO.loadOA ty31 (by rfl) (by assumption) (by rfl)) ?_)
  first | (refine RS.q rfl (QO.sneq4 eqt31 (by rfl) (by rfl)) ?_) | (refine RS.q rfl (QO.sneq eqt31 (by decide) (by rfl) (by rfl) (by rfl) (by rfl)) ?_)
  refine RS.q rfl (QO.move) ?_
  refine RS.split (dj := 11) (by rfl) (fun hb0 => ?_) (fun hb0 => ?_)
  · have hb0p := bne_iff_ne.1 hb0
    refine RS.off (dj := 11) rfl (.inl (congrArg Value.bool hb0)) (fun _ => rfl) rfl ?_
    refine RS.off (dj := 11) rfl (.inl (congrArg Value.bool hb0)) (fun _ => rfl) rfl ?_
    refine RS.off (dj := 11) rfl (.inl (congrArg Value.bool hb0)) (fun _ => rfl) rfl ?_
    refine RS.off (dj := 11) rfl (.inl (congrArg Value.bool hb0)) (fun _ => rfl) rfl ?_
    refine RS.off (dj := 11) rfl (.inl (congrArg Value.bool hb0)) (fun _ => rfl) rfl ?_
    refine RS.off (dj := 11) rfl (.inl (congrArg Value.bool hb0)) (fun _ => rfl) rfl ?_
    refine RS.off (dj := 11) rfl (.inl (congrArg Value.bool hb0)) (fun _ => rfl) rfl ?_
    refine RS.q rfl (QO.pickT (by rfl) hb0 (by rfl)) ?_
    refine RS.nil ?_
    refine thenC_n ?_
    refine CS.condT (by rfl) rfl ?_
    refine CS.seq ?_
    refine CS.region ?_
    refine RS.q rfl (QO.assign) ?_
    refine RS.nil ?_
    refine thenC_n ?_
    refine CS.ret ?_
    refine thenC_r ?_
    refine retQ.mk (H' := []) (.inr rfl) (RVs.tmp (by rfl) RVs.nil) (List.nil_sublist _) ?_
    exact ⟨congrArg Value.bool (decide_eq_false fun h => hb0p h.1).symm, rfl⟩
  · have hb0p := of_bne_false hb0
    refine RS.on (dj := 11) rfl (congrArg Value.bool hb0) ?_
    refine RS.q rfl (QO.fieldAddr fo34_1 (by rfl)) ?_
    refine RS.on (dj := 11) rfl (congrArg Value.bool hb0) ?_
    first | (refine RS.q rfl (QO.load ty32 (by rfl) (by repeat (first | exact List.Mem.head _ | refine List.Mem.tail _ ?_)) (by rfl)) ?_) | (refine RS.q rfl (QO.loadO ty32 (by rfl) (by assumption)) ?_) | (refine RS.q rfl (QO.load ty32 (by rfl) (by repeat (first | exact List.Mem.head _ | refine List.Mem.tail _ ?_)) (by assumption)) ?_)
    refine RS.on (dj := 11) rfl (congrArg Value.bool hb0) ?_
    refine RS.q rfl (QO.lenS Tryd.underlying32 (by rfl)) ?_
    refine RS.on (dj := 11) rfl (congrArg Value.bool hb0) ?_
    refine RS.q rfl (QO.fieldAddr fo34_1 (by rfl)) ?_
    refine RS.on (dj := 11) rfl (congrArg Value.bool hb0) ?_
    first | (refine RS.q rfl (QO.load ty32 (by rfl) (by repeat (first | exact List.Mem.head _ | refine List.Mem.tail _ ?_)) (by rfl)) ?_) | (refine RS.q rfl (QO.loadO ty32 (by rfl) (by assumption)) ?_) | (refine RS.q rfl (QO.load ty32 (by rfl) (by repeat (first | exact List.Mem.head _ | refine List.Mem.tail _ ?_)) (by assumption)) ?_)
    refine RS.on (dj := 11) rfl (congrArg Value.bool hb0) ?_
    refine RS.q rfl (QO.lenS Tryd.underlying32 (by rfl)) ?_
    refine RS.on (dj := 11) rfl (congrArg Value.bool hb0) ?_
    refine RS.q rfl (QO.neq (by rfl) (by rfl)) ?_
    refine RS.q rfl (QO.pickF (by rfl) hb0 (by rfl)) ?_
    refine RS.nil ?_
    refine thenC_n ?_
    refine CS.cond (by rfl) (fun hb1 => ?_) (fun hb1 => ?_)
    · have hb1p := bne_iff_ne.1 hb1
      refine CS.seq ?_
      refine CS.region ?_
      refine RS.q rfl (QO.assign) ?_
      refine RS.nil ?_
      refine thenC_n ?_
      refine CS.ret ?_
      refine thenC_r ?_
      refine retQ.mk (H' := []) (.inr rfl) (RVs.tmp (by rfl) RVs.nil) (List.nil_sublist _) ?_
      exact ⟨congrArg Value.bool (decide_eq_false fun h => by have h9 := congrArg List.length h.2; simp only [List.length_map] at h9; omega).symm, rfl⟩
    · have hb1p := of_bne_false hb1
      refine CS.skip ?_
      refine thenC_n ?_
      refine CS.seq ?_
      refine CS.seq ?_
      refine CS.region ?_
      refine RS.q rfl (QO.fieldAddr fo34_1 (by rfl)) ?_
      first | (refine RS.q rfl (QO.load ty32 (by rfl) (by repeat (first | exact List.Mem.head _ | refine List.Mem.tail _ ?_)) (by rfl)) ?_) | (refine RS.q rfl (QO.loadO ty32 (by rfl) (by assumption)) ?_) | (refine RS.q rfl (QO.load ty32 (by rfl) (by repeat (first | exact List.Mem.head _ | refine List.Mem.tail _ ?_)) (by assumption)) ?_)
      refine RS.q rfl (QO.lenS Tryd.underlying32 (by rfl)) ?_
      refine RS.q rfl (QO.move) ?_
      refine RS.nil ?_
      refine thenC_n ?_
      refine CS.block ?_
      have hll : n = n' := by have := of_bne_false hb1; omega
      refine CS.loop (X := Nat) (4 :: 5 :: 23 :: 24 :: 25 :: 26 :: 27 :: 28 :: 29 :: 30 :: 31 :: 32 :: 33 :: 34 :: 35 :: 36 :: 37 :: 38 :: 39 :: []) (fun k => [(23, iv (k : Int))]) (fun k => [⟨g3, 34, [iv x', iv y', iv wi', iv he', .slice A' n' c']⟩, ⟨g2, 34, [iv x, iv y, iv wi, iv he, .slice A n c]⟩]) (fun k => k ≤ n ∧ (xs.map cl).take k = (xs'.map cl).take k) (fun k => n - k) 0 ⟨Nat.zero_le _, rfl⟩ ?_ ?_ ?_
      · exact (by repeat (first | exact kn_nil | refine kn_cons (by rfl) ?_))
      · exact (by repeat (first | exact List.Sublist.refl _ | exact List.nil_sublist _ | refine List.Sublist.cons_cons _ ?_ | refine List.Sublist.cons _ ?_ | exact Sbp.refl | exact Sbp.nil | refine Sbp.cons (by repeat (first | exact Rem.head | apply Rem.tail)) ?_ | exact Sbp.app | refine Sbp.skip ?_))
      · intro k gj4 hz
        obtain ⟨hk, hz⟩ := hz
        refine CS.seq ?_
        refine CS.region ?_
        refine RS.q rfl (QO.lss (by rfl) (by rfl)) ?_
        refine RS.nil ?_
        refine thenC_n ?_
        refine CS.seq ?_
        refine CS.cond (by rfl) (fun hb2 => ?_) (fun hb2 => ?_)
        · have hb2p := of_decide_eq_true hb2
          refine CS.skip ?_
          refine thenC_n ?_
          refine CS.seq ?_
          refine CS.block ?_
          refine CS.seq ?_
          refine CS.region ?_
          refine RS.q rfl (QO.move) ?_
          refine RS.q rfl (QO.assign) ?_
          refine RS.nil ?_
          refine thenC_n ?_
          refine CS.seq ?_
          refine CS.draw 13 rfl (by kernel_rfl) (by kernel_rfl) ?_
          have hlt : k < xs.length := by omega
          have hlt' : k < xs'.length := by omega
          obtain ⟨bA, oA, rfl, hcell⟩ := hA (by omega)
          obtain ⟨bA', oA', rfl, hcell'⟩ := hA' (by omega)
          refine RT.take (i := 0) rfl (by kernel_rfl) rfl (QO.fieldAddr fo34_1 (by rfl)) ?_
          first | (refine RT.take (i := 1) rfl (by kernel_rfl) rfl (QO.load ty32 (by rfl) (by repeat (first | exact List.Mem.head _ | refine List.Mem.tail _ ?_)) (by rfl)) ?_) | (refine RT.take (i := 1) rfl (by kernel_rfl) rfl (QO.loadO ty32 (by rfl) (by assumption)) ?_) | (refine RT.take (i := 1) rfl (by kernel_rfl) rfl (QO.load ty32 (by rfl) (by repeat (first | exact List.Mem.head _ | refine List.Mem.tail _ ?_)) (by assumption)) ?_)
          refine RT.take (i := 2) rfl (by kernel_rfl) rfl (QO.move) ?_
          first | (refine RT.take (i := 3) rfl (by kernel_rfl) rfl (QO.idx0 Tryd.underlying32 ty36 (by rfl) (by rfl) (by rfl) (by omega)) ?_) | (refine RT.take (i := 3) rfl (by kernel_rfl) rfl (QO.idxn Tryd.underlying32 ty36 (by rfl) (by rfl) (by rfl) (by omega)) ?_) | (refine RT.take (i := 3) rfl (by kernel_rfl) rfl (QO.idx1 Tryd.underlying32 ty36 (by rfl) (by rfl) (by omega) (by omega)) ?_)
          refine RT.take (i := 4) rfl (by kernel_rfl) rfl (QO.loadO ty36 (by rfl) (hcell _ _ (List.getElem?_eq_getElem hlt))) ?_
          refine RT.take (i := 6) rfl (by kernel_rfl) rfl (QO.fieldAddr fo34_1 (by rfl)) ?_
          first | (refine RT.take (i := 7) rfl (by kernel_rfl) rfl (QO.load ty32 (by rfl) (by repeat (first | exact List.Mem.head _ | refine List.Mem.tail _ ?_)) (by rfl)) ?_) | (refine RT.take (i := 7) rfl (by kernel_rfl) rfl (QO.loadO ty32 (by rfl) (by assumption)) ?_) | (refine RT.take (i := 7) rfl (by kernel_rfl) rfl (QO.load ty32 (by rfl) (by repeat (first | exact List.Mem.head _ | refine List.Mem.tail _ ?_)) (by assumption)) ?_)
          refine RT.take (i := 8) rfl (by kernel_rfl) rfl (QO.move) ?_
          first | (refine RT.take (i := 9) rfl (by kernel_rfl) rfl (QO.idx0 Tryd.underlying32 ty36 (by rfl) (by rfl) (by rfl) (by omega)) ?_) | (refine RT.take (i := 9) rfl (by kernel_rfl) rfl (QO.idxn Tryd.underlying32 ty36 (by rfl) (by rfl) (by rfl) (by omega)) ?_) | (refine RT.take (i := 9) rfl (by kernel_rfl) rfl (QO.idx1 Tryd.underlying32 ty36 (by rfl) (by rfl) (by omega) (by omega)) ?_)
          refine RT.take (i := 10) rfl (by kernel_rfl) rfl (QO.loadO ty36 (by rfl) (hcell' _ _ (List.getElem?_eq_getElem hlt'))) ?_
          refine RT.one (i := 5) (by kernel_rfl) rfl rfl ?_
          refine RS.call rfl (by rfl) ok58 (by rfl) (fun w ho => bits _ _) ?_
          rintro _ _ ⟨rfl, rfl⟩
          refine RS.nil ⟨(by repeat (first | exact List.Sublist.refl _ | exact List.nil_sublist _ | refine List.Sublist.cons_cons _ ?_ | refine List.Sublist.cons _ ?_ | exact Sbp.refl | exact Sbp.nil | refine Sbp.cons (by repeat (first | exact Rem.head | apply Rem.tail)) ?_ | exact Sbp.app | refine Sbp.skip ?_)), ?_⟩
          refine RT.one (i := 11) (by kernel_rfl) rfl rfl ?_
          refine RS.call rfl (by rfl) ok58 (by rfl) (fun w ho => bits _ _) ?_
          rintro _ _ ⟨rfl, rfl⟩
          refine RS.nil ⟨(by repeat (first | exact List.Sublist.refl _ | exact List.nil_sublist _ | refine List.Sublist.cons_cons _ ?_ | refine List.Sublist.cons _ ?_ | exact Sbp.refl | exact Sbp.nil | refine Sbp.cons (by repeat (first | exact Rem.head | apply Rem.tail)) ?_ | exact Sbp.app | refine Sbp.skip ?_)), ?_⟩
          refine RT.take (i := 12) rfl (by kernel_rfl) rfl (QO.neq (by rfl) (by rfl)) ?_
          refine RT.done (by kernel_rfl) ?_
          refine thenC_n ?_
          refine CS.cond (by rfl) (fun hb3 => ?_) (fun hb3 => ?_)
          · have hb3p := bne_iff_ne.1 hb3
            refine CS.seq ?_
            refine CS.region ?_
            refine RS.q rfl (QO.assign) ?_
            refine RS.nil ?_
            refine thenC_n ?_
            refine CS.ret ?_
            refine blockC_r ?_
            refine thenC_r ?_
            refine loopQ_r ?_
            refine blockC_r ?_
            refine thenC_r ?_
            refine retQ.mk (H' := []) (.inr rfl) (RVs.tmp (by rfl) RVs.nil) (List.nil_sublist _) ?_
            exact ⟨congrArg Value.bool (decide_eq_false fun h => mdiffers hlt hlt' hb3p h.2).symm, rfl⟩
          · have hb3p := of_bne_false hb3
            refine CS.skip ?_
            refine blockC_n ?_
            refine thenC_n ?_
            refine CS.region ?_
            first | (refine RS.q rfl (QO.add (by rfl) (by rfl) (by omega) (by omega)) ?_) | (refine RS.q rfl (QO.ibin (by rfl) (by rfl) trivial) ?_)
            refine RS.q rfl (QO.move) ?_
            refine RS.nil ?_
            refine loopQ_n (by intro t ht; repeat (first | with_reducible exact rfl | exact frame_puts ht (frame_mix ht) _ rfl | (refine frame_put rfl ht ?_) | (refine frame_puts ht ?_ _ rfl) | exact frame_mix ht | (refine frame_mix2 rfl ht ?_) | exact rfl)) ?_
            exact ⟨k + 1, ⟨by omega, mtake_more hz hlt hlt' (of_bne_false hb3)⟩, by omega, (by repeat (first | exact kn_nil | refine kn_cons (by rfl) ?_)), (by repeat (first | exact List.Sublist.refl _ | exact List.nil_sublist _ | refine List.Sublist.cons_cons _ ?_ | refine List.Sublist.cons _ ?_ | exact Sbp.refl | exact Sbp.nil | refine Sbp.cons (by repeat (first | exact Rem.head | apply Rem.tail)) ?_ | exact Sbp.app | refine Sbp.skip ?_))⟩
        · have hb2p := of_decide_eq_false hb2
          refine CS.exit ?_
          refine thenC_x ?_
          refine loopQ_x ?_
          refine blockC_x ?_
          refine thenC_n ?_
          refine CS.seq ?_
          refine CS.region ?_
          refine RS.q rfl (QO.assign) ?_
          refine RS.nil ?_
          refine thenC_n ?_
          refine CS.ret ?_
          refine retQ.mk (H' := []) (.inr rfl) (RVs.tmp (by rfl) RVs.nil) (List.nil_sublist _) ?_
          have hkn : k = n := by omega
          exact ⟨congrArg Value.bool (decide_eq_true ⟨of_bne_false hb0, take_whole hz (by rw [List.length_map]; omega) (by rw [List.length_map]; omega)⟩).symm, rfl⟩

end Go.Proofs.YtapcgokcfmklbaaDoor
