/-
  Contracts: sameEdits. Conditions: as each theorem says.
-/
import Derived.Test.YtapcgokcfmklbaaDoorE6
namespace Go.Proofs.YtapcgokcfmklbaaDoor
open Go Go.Proofs Go.RowKit

theorem ok87 : callOK Tryd.prog 87 = true := by kernel_rfl

set_option maxRecDepth 100000 in
theorem sameEdits (t t2 : List UInt8) (r r2 : Int) (A A2 : Option Addr) (n c n2 c2 : Nat) (l m : List Ev) (W : World) (hl : l.length = n) (hA : ES W A l) (hl2 : m.length = n2) (hA2 : ES W A2 m) (hm : n ≤ maxLen) : Fn_ Tryd.prog 28 #[.agg #[sv t, iv r, .slice A n c], .agg #[sv t2, iv r2, .slice A2 n2 c2]] W (fun v H => v = .bool (decide (t = t2 ∧ r = r2 ∧ l = m)) ∧ H = []) := by
  refine Fn_.intro Tryd.func28 rfl rfl (by rfl) ?_
  refine CS.seq ?_
  refine CS.region ?_
  refine RS.box rfl (by rfl) (by rfl) ?_
  intro g2
  refine RS.box rfl (by rfl) (by rfl) ?_
  intro g3
  refine RS.q rfl (QO.assign) ?_
  refine RS.nil ?_
  refine thenC_n ?_
  refine CS.seq ?_
  refine CS.region ?_
  refine RS.q rfl (QO.fieldAddr fo52_0 (by rfl)) ?_
  first | (refine RS.q rfl (QO.load ty9 (by rfl) (by repeat (first | exact List.Mem.head _ | refine List.Mem.tail _ ?_)) (by rfl)) ?_) | (refine RS.q rfl (QO.loadO ty9 (by rfl) (by assumption)) ?_) | (refine RS.q rfl (QO.load ty9 (by rfl) (by repeat (first | exact List.Mem.head _ | refine List.Mem.tail _ ?_)) (by assumption)) ?_)
  refine RS.q rfl (QO.fieldAddr fo52_0 (by rfl)) ?_
  first | (refine RS.q rfl (QO.load ty9 (by rfl) (by repeat (first | exact List.Mem.head _ | refine List.Mem.tail _ ?_)) (by rfl)) ?_) | (refine RS.q rfl (QO.loadO ty9 (by rfl) (by assumption)) ?_) | (refine RS.q rfl (QO.load ty9 (by rfl) (by repeat (first | exact List.Mem.head _ | refine List.Mem.tail _ ?_)) (by assumption)) ?_)
  refine RS.q rfl (QO.streq (by rfl) (by rfl)) ?_
  refine RS.q rfl (QO.move) ?_
  refine RS.split (dj := 10) (by rfl) (fun hb0 => ?_) (fun hb0 => ?_)
  · refine RS.on (dj := 10) rfl (congrArg Value.bool hb0) ?_
    refine RS.q rfl (QO.fieldAddr fo52_1 (by rfl)) ?_
    refine RS.on (dj := 10) rfl (congrArg Value.bool hb0) ?_
    first | (refine RS.q rfl (QO.load ty3 (by rfl) (by repeat (first | exact List.Mem.head _ | refine List.Mem.tail _ ?_)) (by rfl)) ?_) | (refine RS.q rfl (QO.loadO ty3 (by rfl) (by assumption)) ?_) | (refine RS.q rfl (QO.load ty3 (by rfl) (by repeat (first | exact List.Mem.head _ | refine List.Mem.tail _ ?_)) (by assumption)) ?_)
    refine RS.on (dj := 10) rfl (congrArg Value.bool hb0) ?_
    refine RS.q rfl (QO.fieldAddr fo52_1 (by rfl)) ?_
    refine RS.on (dj := 10) rfl (congrArg Value.bool hb0) ?_
    first | (refine RS.q rfl (QO.load ty3 (by rfl) (by repeat (first | exact List.Mem.head _ | refine List.Mem.tail _ ?_)) (by rfl)) ?_) | (refine RS.q rfl (QO.loadO ty3 (by rfl) (by assumption)) ?_) | (refine RS.q rfl (QO.load ty3 (by rfl) (by repeat (first | exact List.Mem.head _ | refine List.Mem.tail _ ?_)) (by assumption)) ?_)
    refine RS.on (dj := 10) rfl (congrArg Value.bool hb0) ?_
    refine RS.q rfl (QO.eql (by rfl) (by rfl)) ?_
    refine RS.q rfl (QO.pickT (by rfl) hb0 (by rfl)) ?_
    refine RS.q rfl (QO.move) ?_
    refine RS.split (dj := 17) (by rfl) (fun hb1 => ?_) (fun hb1 => ?_)
    · have hb1p := eq_of_beq hb1
      refine RS.on (dj := 17) rfl (congrArg Value.bool hb1) ?_
      refine RS.q rfl (QO.fieldAddr fo52_2 (by rfl)) ?_
      refine RS.on (dj := 17) rfl (congrArg Value.bool hb1) ?_
      first | (refine RS.q rfl (QO.load ty50 (by rfl) (by repeat (first | exact List.Mem.head _ | refine List.Mem.tail _ ?_)) (by rfl)) ?_) | (refine RS.q rfl (QO.loadO ty50 (by rfl) (by assumption)) ?_) | (refine RS.q rfl (QO.load ty50 (by rfl) (by repeat (first | exact List.Mem.head _ | refine List.Mem.tail _ ?_)) (by assumption)) ?_)
      refine RS.on (dj := 17) rfl (congrArg Value.bool hb1) ?_
      refine RS.q rfl (QO.fieldAddr fo52_2 (by rfl)) ?_
      refine RS.on (dj := 17) rfl (congrArg Value.bool hb1) ?_
      first | (refine RS.q rfl (QO.load ty50 (by rfl) (by repeat (first | exact List.Mem.head _ | refine List.Mem.tail _ ?_)) (by rfl)) ?_) | (refine RS.q rfl (QO.loadO ty50 (by rfl) (by assumption)) ?_) | (refine RS.q rfl (QO.load ty50 (by rfl) (by repeat (first | exact List.Mem.head _ | refine List.Mem.tail _ ?_)) (by assumption)) ?_)
      refine RS.on (dj := 17) rfl (congrArg Value.bool hb1) ?_
      refine RS.call rfl (by rfl) ok87 (by rfl) (fun w ho => equalE A A2 n c n2 c2 l m _ hl (hA.own ho) hl2 (hA2.own ho) hm) ?_
      rintro _ _ ⟨rfl, rfl⟩
      refine RS.q rfl (QO.pickT (by rfl) hb1 (by rfl)) ?_
      refine RS.q rfl (QO.assign) ?_
      refine RS.nil ?_
      refine thenC_n ?_
      refine CS.ret ?_
      refine retQ.mk (H' := []) (.inr rfl) (RVs.tmp (by rfl) RVs.nil) (List.nil_sublist _) ?_
      refine ⟨congrArg Value.bool ?_, rfl⟩
      simp_all
    · have hb1p := ne_of_beq_false hb1
      refine RS.off (dj := 17) rfl (.inl (congrArg Value.bool hb1)) (fun _ => rfl) rfl ?_
      refine RS.off (dj := 17) rfl (.inl (congrArg Value.bool hb1)) (fun _ => rfl) rfl ?_
      refine RS.off (dj := 17) rfl (.inl (congrArg Value.bool hb1)) (fun _ => rfl) rfl ?_
      refine RS.off (dj := 17) rfl (.inl (congrArg Value.bool hb1)) (fun _ => rfl) rfl ?_
      refine RS.off (dj := 17) rfl (.inl (congrArg Value.bool hb1)) (fun _ => rfl) rfl ?_
      refine RS.q rfl (QO.pickF (by rfl) hb1 (by rfl)) ?_
      refine RS.q rfl (QO.assign) ?_
      refine RS.nil ?_
      refine thenC_n ?_
      refine CS.ret ?_
      refine retQ.mk (H' := []) (.inr rfl) (RVs.tmp (by rfl) RVs.nil) (List.nil_sublist _) ?_
      refine ⟨congrArg Value.bool ?_, rfl⟩
      simp_all
  · refine RS.off (dj := 10) rfl (.inl (congrArg Value.bool hb0)) (fun _ => rfl) rfl ?_
    refine RS.off (dj := 10) rfl (.inl (congrArg Value.bool hb0)) (fun _ => rfl) rfl ?_
    refine RS.off (dj := 10) rfl (.inl (congrArg Value.bool hb0)) (fun _ => rfl) rfl ?_
    refine RS.off (dj := 10) rfl (.inl (congrArg Value.bool hb0)) (fun _ => rfl) rfl ?_
    refine RS.off (dj := 10) rfl (.inl (congrArg Value.bool hb0)) (fun _ => rfl) rfl ?_
    refine RS.q rfl (QO.pickF (by rfl) hb0 (by rfl)) ?_
    refine RS.q rfl (QO.move) ?_
    refine RS.off (dj := 17) rfl (.inl (congrArg Value.bool rfl)) (fun _ => rfl) rfl ?_
    refine RS.off (dj := 17) rfl (.inl (congrArg Value.bool rfl)) (fun _ => rfl) rfl ?_
    refine RS.off (dj := 17) rfl (.inl (congrArg Value.bool rfl)) (fun _ => rfl) rfl ?_
    refine RS.off (dj := 17) rfl (.inl (congrArg Value.bool rfl)) (fun _ => rfl) rfl ?_
    refine RS.off (dj := 17) rfl (.inl (congrArg Value.bool rfl)) (fun _ => rfl) rfl ?_
    refine RS.q rfl (QO.pickF (by rfl) rfl (by rfl)) ?_
    refine RS.q rfl (QO.assign) ?_
    refine RS.nil ?_
    refine thenC_n ?_
    refine CS.ret ?_
    refine retQ.mk (H' := []) (.inr rfl) (RVs.tmp (by rfl) RVs.nil) (List.nil_sublist _) ?_
    refine ⟨congrArg Value.bool ?_, rfl⟩
    simp_all

end Go.Proofs.YtapcgokcfmklbaaDoor
