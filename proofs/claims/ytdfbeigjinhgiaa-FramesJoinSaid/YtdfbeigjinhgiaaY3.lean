/-
  Part 3 of what the proof leans on (C10, Mut, C12, Jn, Jn1, Mp). Conditions: as each theorem says.
-/
import Derived.Test.YtdfbeigjinhgiaaY2
import Derived.Maps.Range
namespace Go.Proofs.Ytdfbeigjinhgiaa
open Go Go.Proofs Go.RowKit

theorem ok27 : callOK Try.prog 27 = true := by kernel_rfl
theorem ok26 : callOK Try.prog 26 = true := by kernel_rfl
theorem tup2 {p p' q q' : Int} (h : p = p') (h2 : q = q') : Value.tuple #[iv p, iv q] = Value.tuple #[iv p', iv q'] := by subst h h2; rfl
theorem cmv {T T' : Rg} {b b' : Bool} (h : T = T') (h2 : b = b') : Value.tuple #[.agg (rgc T).toArray, .bool b] = Value.tuple #[.agg (rgc T').toArray, .bool b'] := by subst h h2; rfl
theorem gv {T T' : Rg} {e e' : Int} (h : T = T') (h2 : e = e') : Value.tuple #[.agg (rgc T).toArray, iv e] = Value.tuple #[.agg (rgc T').toArray, iv e'] := by subst h h2; rfl
theorem tv {vs : Value} {e e' : Int} (h2 : e = e') : Value.tuple #[vs, iv e] = Value.tuple #[vs, iv e'] := by subst h2; rfl
theorem trow_nil {L : List Rg} (h : L = []) : Row 23 4 (.slice none 0 0) L.length (rgs L) [] := by subst h; exact .nil
theorem trow {L L' : List Rg} {v : Value} {H : HL} (h : L = L') (k : Row 23 4 v L'.length (rgs L') H) : Row 23 4 v L.length (rgs L) H := by subst h; exact k

set_option maxRecDepth 100000 in
theorem floorDiv (a : Int) (s : Nat) (W : World) (hs : 1 ≤ s) (hs2 : s ≤ 256) (ha : -1000000000000 ≤ a ∧ a ≤ 1000000000000) : Fn_ Try.prog 26 #[iv a, iv (s : Int)] W (fun v H => v = .tuple #[iv (a / (s : Int)), iv (a % (s : Int))] ∧ H = []) := by
  have htb := tdiv_bd (s := s) ha
  have htm := tmod_bd (a := a) hs
  refine Fn_.intro Try.func26 rfl rfl (by rfl) ?_
  refine CS.seq ?_
  refine CS.region ?_
  refine RS.q rfl (QO.assign) ?_
  refine RS.q rfl (QO.assign) ?_
  refine RS.nil ?_
  refine thenC_n ?_
  refine CS.seq ?_
  refine CS.draw 8 rfl (by kernel_rfl) (by kernel_rfl) ?_
  refine RT.take (i := 0) rfl (by kernel_rfl) rfl (QO.move) ?_
  refine RT.take (i := 1) rfl (by kernel_rfl) rfl (QO.move) ?_
  refine RT.take (i := 2) rfl (by kernel_rfl) rfl (QO.quo (by rfl) (by rfl) (by omega) (by omega) (by omega)) ?_
  refine RT.take (i := 3) rfl (by kernel_rfl) rfl (QO.move) ?_
  refine RT.take (i := 4) rfl (by kernel_rfl) rfl (QO.move) ?_
  refine RT.take (i := 5) rfl (by kernel_rfl) rfl (QO.rem (by rfl) (by rfl) (by omega)) ?_
  refine RT.take (i := 6) rfl (by kernel_rfl) rfl (QO.assign) ?_
  refine RT.take (i := 7) rfl (by kernel_rfl) rfl (QO.assign) ?_
  refine RT.done (by kernel_rfl) ?_
  refine thenC_n ?_
  refine CS.seq ?_
  refine CS.seq ?_
  refine CS.region ?_
  refine RS.q rfl (QO.move) ?_
  refine RS.q rfl (QO.lss (by rfl) (by rfl)) ?_
  refine RS.nil ?_
  refine thenC_n ?_
  refine CS.cond (by rfl) (fun hb0 => ?_) (fun hb0 => ?_)
  · have hb0p := of_decide_eq_true hb0
    refine CS.region ?_
    refine RS.q rfl (QO.move) ?_
    first | (refine RS.q rfl (QO.sub (by rfl) (by rfl) (by omega) (by omega)) ?_) | (refine RS.q rfl (QO.ibin (by rfl) (by rfl) trivial) ?_)
    refine RS.q rfl (QO.move) ?_
    refine RS.q rfl (QO.move) ?_
    first | (refine RS.q rfl (QO.add (by rfl) (by rfl) (by omega) (by omega)) ?_) | (refine RS.q rfl (QO.ibin (by rfl) (by rfl) trivial) ?_)
    refine RS.q rfl (QO.assign) ?_
    refine RS.q rfl (QO.assign) ?_
    refine RS.nil ?_
    refine thenC_n ?_
    refine CS.seq ?_
    refine CS.region ?_
    refine RS.q rfl (QO.move) ?_
    refine RS.q rfl (QO.move) ?_
    refine RS.q rfl (QO.assign) ?_
    refine RS.q rfl (QO.assign) ?_
    refine RS.nil ?_
    refine thenC_n ?_
    refine CS.ret ?_
    refine retQ.mk (H' := []) (.inr rfl) (RVs.tmp (by rfl) (RVs.tmp (by rfl) RVs.nil)) (List.nil_sublist _) ?_
    have h9 := fdiv_neg hs hb0p
    exact ⟨tup2 h9.1 h9.2, rfl⟩
  · have hb0p := of_decide_eq_false hb0
    refine CS.skip ?_
    refine thenC_n ?_
    refine CS.seq ?_
    refine CS.region ?_
    refine RS.q rfl (QO.move) ?_
    refine RS.q rfl (QO.move) ?_
    refine RS.q rfl (QO.assign) ?_
    refine RS.q rfl (QO.assign) ?_
    refine RS.nil ?_
    refine thenC_n ?_
    refine CS.ret ?_
    refine retQ.mk (H' := []) (.inr rfl) (RVs.tmp (by rfl) (RVs.tmp (by rfl) RVs.nil)) (List.nil_sublist _) ?_
    have h9 := fdiv_pos hs hb0p
    exact ⟨tup2 h9.1 h9.2, rfl⟩

set_option maxRecDepth 100000 in
theorem common_ (ax ay aw ah bx bz bw bh : Int) (W : World) (q0 : (-1000000000 ≤ ax ∧ ax ≤ 1000000000)) (q1 : (-1000000000 ≤ ay ∧ ay ≤ 1000000000)) (q2 : (-1000000000 ≤ aw ∧ aw ≤ 1000000000)) (q3 : (-1000000000 ≤ ah ∧ ah ≤ 1000000000)) (q4 : (-1000000000 ≤ bx ∧ bx ≤ 1000000000)) (q5 : (-1000000000 ≤ bz ∧ bz ≤ 1000000000)) (q6 : (-1000000000 ≤ bw ∧ bw ≤ 1000000000)) (q7 : (-1000000000 ≤ bh ∧ bh ≤ 1000000000)) : Fn_ Try.prog 27 #[.agg #[iv ax, iv ay, iv aw, iv ah], .agg #[iv bx, iv bz, iv bw, iv bh]] W (fun v H => v = .tuple #[.agg (rgc (cmT ax ay aw ah bx bz bw bh)).toArray, .bool (cmB ax ay aw ah bx bz bw bh)] ∧ H = []) := by
  refine Fn_.intro Try.func27 rfl rfl (by rfl) ?_
  refine CS.seq ?_
  refine CS.region ?_
  refine RS.box rfl (by rfl) (by rfl) ?_
  intro g2
  refine RS.box rfl (by rfl) (by rfl) ?_
  intro g3
  refine RS.alloc rfl ty23 ?_
  intro g4
  refine RS.q rfl (QO.assign) ?_
  refine RS.nil ?_
  refine thenC_n ?_
  refine CS.seq ?_
  refine CS.draw 12 rfl (by kernel_rfl) (by kernel_rfl) ?_
  refine RT.take (i := 0) rfl (by kernel_rfl) rfl (QO.fieldAddr fo23_0 (by rfl)) ?_
  first | (refine RT.take (i := 1) rfl (by kernel_rfl) rfl (QO.load ty3 (by rfl) (by repeat (first | exact List.Mem.head _ | refine List.Mem.tail _ ?_)) (by rfl)) ?_) | (refine RT.take (i := 1) rfl (by kernel_rfl) rfl (QO.loadO ty3 (by rfl) (by assumption)) ?_) | (refine RT.take (i := 1) rfl (by kernel_rfl) rfl (QO.load ty3 (by rfl) (by repeat (first | exact List.Mem.head _ | refine List.Mem.tail _ ?_)) (by assumption)) ?_)
  refine RT.take (i := 2) rfl (by kernel_rfl) rfl (QO.fieldAddr fo23_0 (by rfl)) ?_
  first | (refine RT.take (i := 3) rfl (by kernel_rfl) rfl (QO.load ty3 (by rfl) (by repeat (first | exact List.Mem.head _ | refine List.Mem.tail _ ?_)) (by rfl)) ?_) | (refine RT.take (i := 3) rfl (by kernel_rfl) rfl (QO.loadO ty3 (by rfl) (by assumption)) ?_) | (refine RT.take (i := 3) rfl (by kernel_rfl) rfl (QO.load ty3 (by rfl) (by repeat (first | exact List.Mem.head _ | refine List.Mem.tail _ ?_)) (by assumption)) ?_)
  refine RT.take (i := 4) rfl (by kernel_rfl) rfl (QO.max2 (by rfl) (by rfl)) ?_
  refine RT.take (i := 5) rfl (by kernel_rfl) rfl (QO.fieldAddr fo23_1 (by rfl)) ?_
  first | (refine RT.take (i := 6) rfl (by kernel_rfl) rfl (QO.load ty3 (by rfl) (by repeat (first | exact List.Mem.head _ | refine List.Mem.tail _ ?_)) (by rfl)) ?_) | (refine RT.take (i := 6) rfl (by kernel_rfl) rfl (QO.loadO ty3 (by rfl) (by assumption)) ?_) | (refine RT.take (i := 6) rfl (by kernel_rfl) rfl (QO.load ty3 (by rfl) (by repeat (first | exact List.Mem.head _ | refine List.Mem.tail _ ?_)) (by assumption)) ?_)
  refine RT.take (i := 7) rfl (by kernel_rfl) rfl (QO.fieldAddr fo23_1 (by rfl)) ?_
  first | (refine RT.take (i := 8) rfl (by kernel_rfl) rfl (QO.load ty3 (by rfl) (by repeat (first | exact List.Mem.head _ | refine List.Mem.tail _ ?_)) (by rfl)) ?_) | (refine RT.take (i := 8) rfl (by kernel_rfl) rfl (QO.loadO ty3 (by rfl) (by assumption)) ?_) | (refine RT.take (i := 8) rfl (by kernel_rfl) rfl (QO.load ty3 (by rfl) (by repeat (first | exact List.Mem.head _ | refine List.Mem.tail _ ?_)) (by assumption)) ?_)
  refine RT.take (i := 9) rfl (by kernel_rfl) rfl (QO.max2 (by rfl) (by rfl)) ?_
  refine RT.take (i := 10) rfl (by kernel_rfl) rfl (QO.assign) ?_
  refine RT.take (i := 11) rfl (by kernel_rfl) rfl (QO.assign) ?_
  refine RT.done (by kernel_rfl) ?_
  refine thenC_n ?_
  refine CS.seq ?_
  refine CS.region ?_
  refine RS.q rfl (QO.move) ?_
  refine RS.q rfl (QO.move) ?_
  refine RS.q rfl (QO.fieldAddr fo23_0 (by rfl)) ?_
  first | (refine RS.q rfl (QO.load ty3 (by rfl) (by repeat (first | exact List.Mem.head _ | refine List.Mem.tail _ ?_)) (by rfl)) ?_) | (refine RS.q rfl (QO.loadO ty3 (by rfl) (by assumption)) ?_) | (refine RS.q rfl (QO.load ty3 (by rfl) (by repeat (first | exact List.Mem.head _ | refine List.Mem.tail _ ?_)) (by assumption)) ?_)
  refine RS.q rfl (QO.fieldAddr fo23_2 (by rfl)) ?_
  first | (refine RS.q rfl (QO.load ty3 (by rfl) (by repeat (first | exact List.Mem.head _ | refine List.Mem.tail _ ?_)) (by rfl)) ?_) | (refine RS.q rfl (QO.loadO ty3 (by rfl) (by assumption)) ?_) | (refine RS.q rfl (QO.load ty3 (by rfl) (by repeat (first | exact List.Mem.head _ | refine List.Mem.tail _ ?_)) (by assumption)) ?_)
  first | (refine RS.q rfl (QO.add (by rfl) (by rfl) (by omega) (by omega)) ?_) | (refine RS.q rfl (QO.ibin (by rfl) (by rfl) trivial) ?_)
  refine RS.q rfl (QO.fieldAddr fo23_0 (by rfl)) ?_
  first | (refine RS.q rfl (QO.load ty3 (by rfl) (by repeat (first | exact List.Mem.head _ | refine List.Mem.tail _ ?_)) (by rfl)) ?_) | (refine RS.q rfl (QO.loadO ty3 (by rfl) (by assumption)) ?_) | (refine RS.q rfl (QO.load ty3 (by rfl) (by repeat (first | exact List.Mem.head _ | refine List.Mem.tail _ ?_)) (by assumption)) ?_)
  refine RS.q rfl (QO.fieldAddr fo23_2 (by rfl)) ?_
  first | (refine RS.q rfl (QO.load ty3 (by rfl) (by repeat (first | exact List.Mem.head _ | refine List.Mem.tail _ ?_)) (by rfl)) ?_) | (refine RS.q rfl (QO.loadO ty3 (by rfl) (by assumption)) ?_) | (refine RS.q rfl (QO.load ty3 (by rfl) (by repeat (first | exact List.Mem.head _ | refine List.Mem.tail _ ?_)) (by assumption)) ?_)
  first | (refine RS.q rfl (QO.add (by rfl) (by rfl) (by omega) (by omega)) ?_) | (refine RS.q rfl (QO.ibin (by rfl) (by rfl) trivial) ?_)
  refine RS.q rfl (QO.min2 (by rfl) (by rfl)) ?_
  refine RS.q rfl (QO.move) ?_
  first | (refine RS.q rfl (QO.sub (by rfl) (by rfl) (by omega) (by omega)) ?_) | (refine RS.q rfl (QO.ibin (by rfl) (by rfl) trivial) ?_)
  refine RS.q rfl (QO.fieldAddr fo23_1 (by rfl)) ?_
  first | (refine RS.q rfl (QO.load ty3 (by rfl) (by repeat (first | exact List.Mem.head _ | refine List.Mem.tail _ ?_)) (by rfl)) ?_) | (refine RS.q rfl (QO.loadO ty3 (by rfl) (by assumption)) ?_) | (refine RS.q rfl (QO.load ty3 (by rfl) (by repeat (first | exact List.Mem.head _ | refine List.Mem.tail _ ?_)) (by assumption)) ?_)
  refine RS.q rfl (QO.fieldAddr fo23_3 (by rfl)) ?_
  first | (refine RS.q rfl (QO.load ty3 (by rfl) (by repeat (first | exact List.Mem.head _ | refine List.Mem.tail _ ?_)) (by rfl)) ?_) | (refine RS.q rfl (QO.loadO ty3 (by rfl) (by assumption)) ?_) | (refine RS.q rfl (QO.load ty3 (by rfl) (by repeat (first | exact List.Mem.head _ | refine List.Mem.tail _ ?_)) (by assumption)) ?_)
  first | (refine RS.q rfl (QO.add (by rfl) (by rfl) (by omega) (by omega)) ?_) | (refine RS.q rfl (QO.ibin (by rfl) (by rfl) trivial) ?_)
  refine RS.q rfl (QO.fieldAddr fo23_1 (by rfl)) ?_
  first | (refine RS.q rfl (QO.load ty3 (by rfl) (by repeat (first | exact List.Mem.head _ | refine List.Mem.tail _ ?_)) (by rfl)) ?_) | (refine RS.q rfl (QO.loadO ty3 (by rfl) (by assumption)) ?_) | (refine RS.q rfl (QO.load ty3 (by rfl) (by repeat (first | exact List.Mem.head _ | refine List.Mem.tail _ ?_)) (by assumption)) ?_)
  refine RS.q rfl (QO.fieldAddr fo23_3 (by rfl)) ?_
  first | (refine RS.q rfl (QO.load ty3 (by rfl) (by repeat (first | exact List.Mem.head _ | refine List.Mem.tail _ ?_)) (by rfl)) ?_) | (refine RS.q rfl (QO.loadO ty3 (by rfl) (by assumption)) ?_) | (refine RS.q rfl (QO.load ty3 (by rfl) (by repeat (first | exact List.Mem.head _ | refine List.Mem.tail _ ?_)) (by assumption)) ?_)
  first | (refine RS.q rfl (QO.add (by rfl) (by rfl) (by omega) (by omega)) ?_) | (refine RS.q rfl (QO.ibin (by rfl) (by rfl) trivial) ?_)
  refine RS.q rfl (QO.min2 (by rfl) (by rfl)) ?_
  refine RS.q rfl (QO.move) ?_
  first | (refine RS.q rfl (QO.sub (by rfl) (by rfl) (by omega) (by omega)) ?_) | (refine RS.q rfl (QO.ibin (by rfl) (by rfl) trivial) ?_)
  refine RS.qv rfl (QO.build ty23 pl23 (by rfl)) ((show _ = Value.agg #[iv (max ax bx), iv (max ay bz), iv (min (ax + aw) (bx + bw) - max ax bx), iv (min (ay + ah) (bz + bh) - max ay bz)] from rfl)) ?_
  refine RS.alloc rfl ty23 ?_
  intro g8
  first | refine RS.storeB ty23 (by rfl) (by rfl) (by rfl) (by rfl) (by rfl) (by repeat (first | exact Upd.head | apply Upd.tail)) (by rfl) ?_ | refine RS.storeP ty23 (by rfl) (by rfl) (by rfl) (by rfl) (by rfl) (by repeat (first | exact Upd.head | apply Upd.tail)) (by rfl) ?_
  refine RS.nil ?_
  refine thenC_n ?_
  refine CS.seq ?_
  refine CS.seq ?_
  refine CS.region ?_
  refine RS.q rfl (QO.fieldAddr fo23_2 (by rfl)) ?_
  first | (refine RS.q rfl (QO.load ty3 (by rfl) (by repeat (first | exact List.Mem.head _ | refine List.Mem.tail _ ?_)) (by rfl)) ?_) | (refine RS.q rfl (QO.loadO ty3 (by rfl) (by assumption)) ?_) | (refine RS.q rfl (QO.load ty3 (by rfl) (by repeat (first | exact List.Mem.head _ | refine List.Mem.tail _ ?_)) (by assumption)) ?_)
  refine RS.q rfl (QO.lss (by rfl) (by rfl)) ?_
  refine RS.q rfl (QO.move) ?_
  refine RS.split (dj := 51) (by rfl) (fun hb0 => ?_) (fun hb0 => ?_)
  · have hb0p := of_decide_eq_true hb0
    refine RS.off (dj := 51) rfl (.inl (congrArg Value.bool hb0)) (fun _ => rfl) rfl ?_
    refine RS.off (dj := 51) rfl (.inl (congrArg Value.bool hb0)) (fun _ => rfl) rfl ?_
    refine RS.off (dj := 51) rfl (.inl (congrArg Value.bool hb0)) (fun _ => rfl) rfl ?_
    refine RS.q rfl (QO.pickT (by rfl) hb0 (by rfl)) ?_
    refine RS.nil ?_
    refine thenC_n ?_
    refine CS.condT (by rfl) rfl ?_
    refine CS.seq ?_
    refine CS.region ?_
    refine RS.q rfl (QO.build ty23 pl23 (by rfl)) ?_
    first | refine RS.storeB ty23 (by rfl) (by rfl) (by rfl) (by rfl) (by rfl) (by repeat (first | exact Upd.head | apply Upd.tail)) (by rfl) ?_ | refine RS.storeP ty23 (by rfl) (by rfl) (by rfl) (by rfl) (by rfl) (by repeat (first | exact Upd.head | apply Upd.tail)) (by rfl) ?_
    refine RS.q rfl (QO.assign) ?_
    refine RS.nil ?_
    refine thenC_n ?_
    refine CS.ret ?_
    refine thenC_r ?_
    refine retQ.mk (H' := []) (.inr rfl) (RVs.cellA ty23 (by rfl) (by repeat (first | exact List.Mem.head _ | refine List.Mem.tail _ ?_)) (by rfl) (RVs.tmp (by rfl) RVs.nil)) (List.nil_sublist _) ?_
    exact ⟨cmv (cm_w hb0p).2.symm (cm_w hb0p).1.symm, rfl⟩
  · have hb0p := of_decide_eq_false hb0
    refine RS.on (dj := 51) rfl (congrArg Value.bool hb0) ?_
    refine RS.q rfl (QO.fieldAddr fo23_3 (by rfl)) ?_
    refine RS.on (dj := 51) rfl (congrArg Value.bool hb0) ?_
    first | (refine RS.q rfl (QO.load ty3 (by rfl) (by repeat (first | exact List.Mem.head _ | refine List.Mem.tail _ ?_)) (by rfl)) ?_) | (refine RS.q rfl (QO.loadO ty3 (by rfl) (by assumption)) ?_) | (refine RS.q rfl (QO.load ty3 (by rfl) (by repeat (first | exact List.Mem.head _ | refine List.Mem.tail _ ?_)) (by assumption)) ?_)
    refine RS.on (dj := 51) rfl (congrArg Value.bool hb0) ?_
    refine RS.q rfl (QO.lss (by rfl) (by rfl)) ?_
    refine RS.q rfl (QO.pickF (by rfl) hb0 (by rfl)) ?_
    refine RS.nil ?_
    refine thenC_n ?_
    refine CS.cond (by rfl) (fun hb1 => ?_) (fun hb1 => ?_)
    · have hb1p := of_decide_eq_true hb1
      refine CS.seq ?_
      refine CS.region ?_
      refine RS.q rfl (QO.build ty23 pl23 (by rfl)) ?_
      first | refine RS.storeB ty23 (by rfl) (by rfl) (by rfl) (by rfl) (by rfl) (by repeat (first | exact Upd.head | apply Upd.tail)) (by rfl) ?_ | refine RS.storeP ty23 (by rfl) (by rfl) (by rfl) (by rfl) (by rfl) (by repeat (first | exact Upd.head | apply Upd.tail)) (by rfl) ?_
      refine RS.q rfl (QO.assign) ?_
      refine RS.nil ?_
      refine thenC_n ?_
      refine CS.ret ?_
      refine thenC_r ?_
      refine retQ.mk (H' := []) (.inr rfl) (RVs.cellA ty23 (by rfl) (by repeat (first | exact List.Mem.head _ | refine List.Mem.tail _ ?_)) (by rfl) (RVs.tmp (by rfl) RVs.nil)) (List.nil_sublist _) ?_
      exact ⟨cmv (cm_h hb1p).2.symm (cm_h hb1p).1.symm, rfl⟩
    · have hb1p := of_decide_eq_false hb1
      refine CS.skip ?_
      refine thenC_n ?_
      refine CS.seq ?_
      refine CS.region ?_
      first | (refine RS.q rfl (QO.loadB ty23 (by rfl) (by repeat (first | exact List.Mem.head _ | refine List.Mem.tail _ ?_)) (by rfl)) ?_) | (refine RS.q rfl (QO.loadA ty23 (by rfl) (by repeat (first | exact List.Mem.head _ | refine List.Mem.tail _ ?_)) (by rfl) (by rfl)) ?_) | (refine RS.q rfl (QO.loadOA ty23 (by rfl) (by assumption) (by rfl)) ?_)
      first | refine RS.storeB ty23 (by rfl) (by rfl) (by rfl) (by rfl) (by rfl) (by repeat (first | exact Upd.head | apply Upd.tail)) (by rfl) ?_ | refine RS.storeP ty23 (by rfl) (by rfl) (by rfl) (by rfl) (by rfl) (by repeat (first | exact Upd.head | apply Upd.tail)) (by rfl) ?_
      refine RS.q rfl (QO.assign) ?_
      refine RS.nil ?_
      refine thenC_n ?_
      refine CS.ret ?_
      refine retQ.mk (H' := []) (.inr rfl) (RVs.cellA ty23 (by rfl) (by repeat (first | exact List.Mem.head _ | refine List.Mem.tail _ ?_)) (by rfl) (RVs.tmp (by rfl) RVs.nil)) (List.nil_sublist _) ?_
      exact ⟨cmv (cm_ok hb0p hb1p).2.symm (cm_ok hb0p hb1p).1.symm, rfl⟩

theorem common_tile (X Y : Int) (w h s i j : Nat) (W : World) (hs : 1 ≤ s) (hs2 : s ≤ 256) (hw : 1 ≤ w ∧ w ≤ 256) (hh : 1 ≤ h ∧ h ≤ 256) (hX : -1048576 ≤ X ∧ X ≤ 1048576) (hY : -1048576 ≤ Y ∧ Y ≤ 1048576) (hi : i < cntI X w s) (hj : j < cntI Y h s) : Fn_ Try.prog 27 #[.agg #[iv X, iv Y, iv (w : Int), iv (h : Int)], .agg #[iv (X - (px X s : Nat) + ((s * i : Nat) : Int)), iv (Y - (px Y s : Nat) + ((s * j : Nat) : Int)), iv (s : Int), iv (s : Int)]] W (fun v H => v = .tuple #[.agg (rgc (tile X Y w h s i j)).toArray, .bool true] ∧ H = []) := by
  have h1 := (cntI_iff hs).1 hi
  have h2 := (cntI_iff hs).1 hj
  have h3 := (px_eq (X := X) hs).2
  have h4 := (px_eq (X := Y) hs).2
  refine (common_ _ _ _ _ _ _ _ _ W (by omega) (by omega) (by omega) (by omega) (by omega) (by omega) (by omega) (by omega)).mono fun v H h => ?_
  obtain ⟨rfl, rfl⟩ := h
  obtain ⟨h5, h6⟩ := cm_tile (X := X) (Y := Y) hs hw.1 hh.1 hi hj
  exact ⟨by rw [h5, h6], rfl⟩

set_option maxRecDepth 100000 in
theorem inside (ax ay aw ah bx bz bw bh : Int) (W : World) (h0 : -1000000000 ≤ ax ∧ ax ≤ 1000000000) (h00 : -1000000000 ≤ ay ∧ ay ≤ 1000000000) (h1 : -1000000000 ≤ bx ∧ bx ≤ 1000000000) (h2 : -1000000000 ≤ bz ∧ bz ≤ 1000000000) (h3 : -1000000000 ≤ bw ∧ bw ≤ 1000000000) (h4 : -1000000000 ≤ bh ∧ bh ≤ 1000000000) (h5 : -1000000000 ≤ aw ∧ aw ≤ 1000000000) (h6 : -1000000000 ≤ ah ∧ ah ≤ 1000000000) : Fn_ Try.prog 17 #[.agg #[iv ax, iv ay, iv aw, iv ah], .agg #[iv bx, iv bz, iv bw, iv bh]] W (fun v H => v = .bool (insB ax ay aw ah bx bz bw bh) ∧ H = []) := by
  refine Fn_.intro Try.func17 rfl rfl (by rfl) ?_
  refine CS.seq ?_
  refine CS.region ?_
  refine RS.box rfl (by rfl) (by rfl) ?_
  intro g2
  refine RS.box rfl (by rfl) (by rfl) ?_
  intro g3
  refine RS.q rfl (QO.assign) ?_
  refine RS.nil ?_
  refine thenC_n ?_
  refine CS.seq ?_
  refine CS.region ?_
  refine RS.q rfl (QO.fieldAddr fo23_0 (by rfl)) ?_
  first | (refine RS.q rfl (QO.load ty3 (by rfl) (by repeat (first | exact List.Mem.head _ | refine List.Mem.tail _ ?_)) (by rfl)) ?_) | (refine RS.q rfl (QO.loadO ty3 (by rfl) (by assumption)) ?_) | (refine RS.q rfl (QO.load ty3 (by rfl) (by repeat (first | exact List.Mem.head _ | refine List.Mem.tail _ ?_)) (by assumption)) ?_)
  refine RS.q rfl (QO.fieldAddr fo23_0 (by rfl)) ?_
  first | (refine RS.q rfl (QO.load ty3 (by rfl) (by repeat (first | exact List.Mem.head _ | refine List.Mem.tail _ ?_)) (by rfl)) ?_) | (refine RS.q rfl (QO.loadO ty3 (by rfl) (by assumption)) ?_) | (refine RS.q rfl (QO.load ty3 (by rfl) (by repeat (first | exact List.Mem.head _ | refine List.Mem.tail _ ?_)) (by assumption)) ?_)
  refine RS.q rfl (QO.geq (by rfl) (by rfl)) ?_
  refine RS.q rfl (QO.move) ?_
  refine RS.split (dj := 10) (by rfl) (fun hb0 => ?_) (fun hb0 => ?_)
  · have hb0p := of_decide_eq_true hb0
    refine RS.on (dj := 10) rfl (congrArg Value.bool hb0) ?_
    refine RS.q rfl (QO.fieldAddr fo23_1 (by rfl)) ?_
    refine RS.on (dj := 10) rfl (congrArg Value.bool hb0) ?_
    first | (refine RS.q rfl (QO.load ty3 (by rfl) (by repeat (first | exact List.Mem.head _ | refine List.Mem.tail _ ?_)) (by rfl)) ?_) | (refine RS.q rfl (QO.loadO ty3 (by rfl) (by assumption)) ?_) | (refine RS.q rfl (QO.load ty3 (by rfl) (by repeat (first | exact List.Mem.head _ | refine List.Mem.tail _ ?_)) (by assumption)) ?_)
    refine RS.on (dj := 10) rfl (congrArg Value.bool hb0) ?_
    refine RS.q rfl (QO.fieldAddr fo23_1 (by rfl)) ?_
    refine RS.on (dj := 10) rfl (congrArg Value.bool hb0) ?_
    first | (refine RS.q rfl (QO.load ty3 (by rfl) (by repeat (first | exact List.Mem.head _ | refine List.Mem.tail _ ?_)) (by rfl)) ?_) | (refine RS.q rfl (QO.loadO ty3 (by rfl) (by assumption)) ?_) | (refine RS.q rfl (QO.load ty3 (by rfl) (by repeat (first | exact List.Mem.head _ | refine List.Mem.tail _ ?_)) (by assumption)) ?_)
    refine RS.on (dj := 10) rfl (congrArg Value.bool hb0) ?_
    refine RS.q rfl (QO.geq (by rfl) (by rfl)) ?_
    refine RS.q rfl (QO.pickT (by rfl) hb0 (by rfl)) ?_
    refine RS.q rfl (QO.move) ?_
    refine RS.split (dj := 17) (by rfl) (fun hb1 => ?_) (fun hb1 => ?_)
    · have hb1p := of_decide_eq_true hb1
      refine RS.on (dj := 17) rfl (congrArg Value.bool hb1) ?_
      refine RS.q rfl (QO.fieldAddr fo23_0 (by rfl)) ?_
      refine RS.on (dj := 17) rfl (congrArg Value.bool hb1) ?_
      first | (refine RS.q rfl (QO.load ty3 (by rfl) (by repeat (first | exact List.Mem.head _ | refine List.Mem.tail _ ?_)) (by rfl)) ?_) | (refine RS.q rfl (QO.loadO ty3 (by rfl) (by assumption)) ?_) | (refine RS.q rfl (QO.load ty3 (by rfl) (by repeat (first | exact List.Mem.head _ | refine List.Mem.tail _ ?_)) (by assumption)) ?_)
      refine RS.on (dj := 17) rfl (congrArg Value.bool hb1) ?_
      refine RS.q rfl (QO.fieldAddr fo23_2 (by rfl)) ?_
      refine RS.on (dj := 17) rfl (congrArg Value.bool hb1) ?_
      first | (refine RS.q rfl (QO.load ty3 (by rfl) (by repeat (first | exact List.Mem.head _ | refine List.Mem.tail _ ?_)) (by rfl)) ?_) | (refine RS.q rfl (QO.loadO ty3 (by rfl) (by assumption)) ?_) | (refine RS.q rfl (QO.load ty3 (by rfl) (by repeat (first | exact List.Mem.head _ | refine List.Mem.tail _ ?_)) (by assumption)) ?_)
      refine RS.on (dj := 17) rfl (congrArg Value.bool hb1) ?_
      first | (refine RS.q rfl (QO.add (by rfl) (by rfl) (by omega) (by omega)) ?_) | (refine RS.q rfl (QO.ibin (by rfl) (by rfl) trivial) ?_)
      refine RS.on (dj := 17) rfl (congrArg Value.bool hb1) ?_
      refine RS.q rfl (QO.fieldAddr fo23_0 (by rfl)) ?_
      refine RS.on (dj := 17) rfl (congrArg Value.bool hb1) ?_
      first | (refine RS.q rfl (QO.load ty3 (by rfl) (by repeat (first | exact List.Mem.head _ | refine List.Mem.tail _ ?_)) (by rfl)) ?_) | (refine RS.q rfl (QO.loadO ty3 (by rfl) (by assumption)) ?_) | (refine RS.q rfl (QO.load ty3 (by rfl) (by repeat (first | exact List.Mem.head _ | refine List.Mem.tail _ ?_)) (by assumption)) ?_)
      refine RS.on (dj := 17) rfl (congrArg Value.bool hb1) ?_
      refine RS.q rfl (QO.fieldAddr fo23_2 (by rfl)) ?_
      refine RS.on (dj := 17) rfl (congrArg Value.bool hb1) ?_
      first | (refine RS.q rfl (QO.load ty3 (by rfl) (by repeat (first | exact List.Mem.head _ | refine List.Mem.tail _ ?_)) (by rfl)) ?_) | (refine RS.q rfl (QO.loadO ty3 (by rfl) (by assumption)) ?_) | (refine RS.q rfl (QO.load ty3 (by rfl) (by repeat (first | exact List.Mem.head _ | refine List.Mem.tail _ ?_)) (by assumption)) ?_)
      refine RS.on (dj := 17) rfl (congrArg Value.bool hb1) ?_
      first | (refine RS.q rfl (QO.add (by rfl) (by rfl) (by omega) (by omega)) ?_) | (refine RS.q rfl (QO.ibin (by rfl) (by rfl) trivial) ?_)
      refine RS.on (dj := 17) rfl (congrArg Value.bool hb1) ?_
      refine RS.q rfl (QO.leq (by rfl) (by rfl)) ?_
      refine RS.q rfl (QO.pickT (by rfl) hb1 (by rfl)) ?_
      refine RS.q rfl (QO.move) ?_
      refine RS.split (dj := 30) (by rfl) (fun hb2 => ?_) (fun hb2 => ?_)
      · have hb2p := of_decide_eq_true hb2
        refine RS.on (dj := 30) rfl (congrArg Value.bool hb2) ?_
        refine RS.q rfl (QO.fieldAddr fo23_1 (by rfl)) ?_
        refine RS.on (dj := 30) rfl (congrArg Value.bool hb2) ?_
        first | (refine RS.q rfl (QO.load ty3 (by rfl) (by repeat (first | exact List.Mem.head _ | refine List.Mem.tail _ ?_)) (by rfl)) ?_) | (refine RS.q rfl (QO.loadO ty3 (by rfl) (by assumption)) ?_) | (refine RS.q rfl (QO.load ty3 (by rfl) (by repeat (first | exact List.Mem.head _ | refine List.Mem.tail _ ?_)) (by assumption)) ?_)
        refine RS.on (dj := 30) rfl (congrArg Value.bool hb2) ?_
        refine RS.q rfl (QO.fieldAddr fo23_3 (by rfl)) ?_
        refine RS.on (dj := 30) rfl (congrArg Value.bool hb2) ?_
        first | (refine RS.q rfl (QO.load ty3 (by rfl) (by repeat (first | exact List.Mem.head _ | refine List.Mem.tail _ ?_)) (by rfl)) ?_) | (refine RS.q rfl (QO.loadO ty3 (by rfl) (by assumption)) ?_) | (refine RS.q rfl (QO.load ty3 (by rfl) (by repeat (first | exact List.Mem.head _ | refine List.Mem.tail _ ?_)) (by assumption)) ?_)
        refine RS.on (dj := 30) rfl (congrArg Value.bool hb2) ?_
        first | (refine RS.q rfl (QO.add (by rfl) (by rfl) (by omega) (by omega)) ?_) | (refine RS.q rfl (QO.ibin (by rfl) (by rfl) trivial) ?_)
        refine RS.on (dj := 30) rfl (congrArg Value.bool hb2) ?_
        refine RS.q rfl (QO.fieldAddr fo23_1 (by rfl)) ?_
        refine RS.on (dj := 30) rfl (congrArg Value.bool hb2) ?_
        first | (refine RS.q rfl (QO.load ty3 (by rfl) (by repeat (first | exact List.Mem.head _ | refine List.Mem.tail _ ?_)) (by rfl)) ?_) | (refine RS.q rfl (QO.loadO ty3 (by rfl) (by assumption)) ?_) | (refine RS.q rfl (QO.load ty3 (by rfl) (by repeat (first | exact List.Mem.head _ | refine List.Mem.tail _ ?_)) (by assumption)) ?_)
        refine RS.on (dj := 30) rfl (congrArg Value.bool hb2) ?_
        refine RS.q rfl (QO.fieldAddr fo23_3 (by rfl)) ?_
        refine RS.on (dj := 30) rfl (congrArg Value.bool hb2) ?_
        first | (refine RS.q rfl (QO.load ty3 (by rfl) (by repeat (first | exact List.Mem.head _ | refine List.Mem.tail _ ?_)) (by rfl)) ?_) | (refine RS.q rfl (QO.loadO ty3 (by rfl) (by assumption)) ?_) | (refine RS.q rfl (QO.load ty3 (by rfl) (by repeat (first | exact List.Mem.head _ | refine List.Mem.tail _ ?_)) (by assumption)) ?_)
        refine RS.on (dj := 30) rfl (congrArg Value.bool hb2) ?_
        first | (refine RS.q rfl (QO.add (by rfl) (by rfl) (by omega) (by omega)) ?_) | (refine RS.q rfl (QO.ibin (by rfl) (by rfl) trivial) ?_)
        refine RS.on (dj := 30) rfl (congrArg Value.bool hb2) ?_
        refine RS.q rfl (QO.leq (by rfl) (by rfl)) ?_
        refine RS.q rfl (QO.pickT (by rfl) hb2 (by rfl)) ?_
        refine RS.q rfl (QO.assign) ?_
        refine RS.nil ?_
        refine thenC_n ?_
        refine CS.ret ?_
        refine retQ.mk (H' := []) (.inr rfl) (RVs.tmp (by rfl) RVs.nil) (List.nil_sublist _) ?_
        exact ⟨congrArg Value.bool (by unfold insB; first | exact (decide_eq_false (by omega)).symm | exact decide_eq_decide.2 (by omega)), rfl⟩
      · have hb2p := of_decide_eq_false hb2
        refine RS.off (dj := 30) rfl (.inl (congrArg Value.bool hb2)) (fun _ => rfl) rfl ?_
        refine RS.off (dj := 30) rfl (.inl (congrArg Value.bool hb2)) (fun _ => rfl) rfl ?_
        refine RS.off (dj := 30) rfl (.inl (congrArg Value.bool hb2)) (fun _ => rfl) rfl ?_
        refine RS.off (dj := 30) rfl (.inl (congrArg Value.bool hb2)) (fun _ => rfl) rfl ?_
        refine RS.off (dj := 30) rfl (.inl (congrArg Value.bool hb2)) (fun _ => rfl) rfl ?_
        refine RS.off (dj := 30) rfl (.inl (congrArg Value.bool hb2)) (fun _ => rfl) rfl ?_
        refine RS.off (dj := 30) rfl (.inl (congrArg Value.bool hb2)) (fun _ => rfl) rfl ?_
        refine RS.off (dj := 30) rfl (.inl (congrArg Value.bool hb2)) (fun _ => rfl) rfl ?_
        refine RS.off (dj := 30) rfl (.inl (congrArg Value.bool hb2)) (fun _ => rfl) rfl ?_
        refine RS.off (dj := 30) rfl (.inl (congrArg Value.bool hb2)) (fun _ => rfl) rfl ?_
        refine RS.off (dj := 30) rfl (.inl (congrArg Value.bool hb2)) (fun _ => rfl) rfl ?_
        refine RS.q rfl (QO.pickF (by rfl) hb2 (by rfl)) ?_
        refine RS.q rfl (QO.assign) ?_
        refine RS.nil ?_
        refine thenC_n ?_
        refine CS.ret ?_
        refine retQ.mk (H' := []) (.inr rfl) (RVs.tmp (by rfl) RVs.nil) (List.nil_sublist _) ?_
        exact ⟨congrArg Value.bool (by unfold insB; first | exact (decide_eq_false (by omega)).symm | exact decide_eq_decide.2 (by omega)), rfl⟩
    · have hb1p := of_decide_eq_false hb1
      refine RS.off (dj := 17) rfl (.inl (congrArg Value.bool hb1)) (fun _ => rfl) rfl ?_
      refine RS.off (dj := 17) rfl (.inl (congrArg Value.bool hb1)) (fun _ => rfl) rfl ?_
      refine RS.off (dj := 17) rfl (.inl (congrArg Value.bool hb1)) (fun _ => rfl) rfl ?_
      refine RS.off (dj := 17) rfl (.inl (congrArg Value.bool hb1)) (fun _ => rfl) rfl ?_
      refine RS.off (dj := 17) rfl (.inl (congrArg Value.bool hb1)) (fun _ => rfl) rfl ?_
      refine RS.off (dj := 17) rfl (.inl (congrArg Value.bool hb1)) (fun _ => rfl) rfl ?_
      refine RS.off (dj := 17) rfl (.inl (congrArg Value.bool hb1)) (fun _ => rfl) rfl ?_
      refine RS.off (dj := 17) rfl (.inl (congrArg Value.bool hb1)) (fun _ => rfl) rfl ?_
      refine RS.off (dj := 17) rfl (.inl (congrArg Value.bool hb1)) (fun _ => rfl) rfl ?_
      refine RS.off (dj := 17) rfl (.inl (congrArg Value.bool hb1)) (fun _ => rfl) rfl ?_
      refine RS.off (dj := 17) rfl (.inl (congrArg Value.bool hb1)) (fun _ => rfl) rfl ?_
      refine RS.q rfl (QO.pickF (by rfl) hb1 (by rfl)) ?_
      refine RS.q rfl (QO.move) ?_
      refine RS.off (dj := 30) rfl (.inl (congrArg Value.bool rfl)) (fun _ => rfl) rfl ?_
      refine RS.off (dj := 30) rfl (.inl (congrArg Value.bool rfl)) (fun _ => rfl) rfl ?_
      refine RS.off (dj := 30) rfl (.inl (congrArg Value.bool rfl)) (fun _ => rfl) rfl ?_
      refine RS.off (dj := 30) rfl (.inl (congrArg Value.bool rfl)) (fun _ => rfl) rfl ?_
      refine RS.off (dj := 30) rfl (.inl (congrArg Value.bool rfl)) (fun _ => rfl) rfl ?_
      refine RS.off (dj := 30) rfl (.inl (congrArg Value.bool rfl)) (fun _ => rfl) rfl ?_
      refine RS.off (dj := 30) rfl (.inl (congrArg Value.bool rfl)) (fun _ => rfl) rfl ?_
      refine RS.off (dj := 30) rfl (.inl (congrArg Value.bool rfl)) (fun _ => rfl) rfl ?_
      refine RS.off (dj := 30) rfl (.inl (congrArg Value.bool rfl)) (fun _ => rfl) rfl ?_
      refine RS.off (dj := 30) rfl (.inl (congrArg Value.bool rfl)) (fun _ => rfl) rfl ?_
      refine RS.off (dj := 30) rfl (.inl (congrArg Value.bool rfl)) (fun _ => rfl) rfl ?_
      refine RS.q rfl (QO.pickF (by rfl) rfl (by rfl)) ?_
      refine RS.q rfl (QO.assign) ?_
      refine RS.nil ?_
      refine thenC_n ?_
      refine CS.ret ?_
      refine retQ.mk (H' := []) (.inr rfl) (RVs.tmp (by rfl) RVs.nil) (List.nil_sublist _) ?_
      exact ⟨congrArg Value.bool (by unfold insB; first | exact (decide_eq_false (by omega)).symm | exact decide_eq_decide.2 (by omega)), rfl⟩
  · have hb0p := of_decide_eq_false hb0
    refine RS.off (dj := 10) rfl (.inl (congrArg Value.bool hb0)) (fun _ => rfl) rfl ?_
    refine RS.off (dj := 10) rfl (.inl (congrArg Value.bool hb0)) (fun _ => rfl) rfl ?_
    refine RS.off (dj := 10) rfl (.inl (congrArg Value.bool hb0)) (fun _ => rfl) rfl ?_
    refine RS.off (dj := 10) rfl (.inl (congrArg Value.bool hb0)) (fun _ => rfl) rfl ?_
    refine RS.off (dj := 10) rfl (.inl (congrArg Value.bool hb0)) (fun _ => rfl) rfl ?_
    refine RS.q rfl (QO.pickF (by rfl) hb0 (by rfl)) ?_
    refine RS.q rfl (QO.move) ?_
    refine RS.off (dj := 17) rfl (.inl (congrArg Value.bool rfl)) (fun _ => rfl) rfl ?_
    refine RS.off (dj := 17) rfl (.inl (congrArg Value.bool rfl)) (fun _ => rfl) rfl ?_
    refine RS.off (dj := 17) rfl (.inl (congrArg Value.bool rfl)) (fun _ => rfl) rfl ?_
    refine RS.off (dj := 17) rfl (.inl (congrArg Value.bool rfl)) (fun _ => rfl) rfl ?_
    refine RS.off (dj := 17) rfl (.inl (congrArg Value.bool rfl)) (fun _ => rfl) rfl ?_
    refine RS.off (dj := 17) rfl (.inl (congrArg Value.bool rfl)) (fun _ => rfl) rfl ?_
    refine RS.off (dj := 17) rfl (.inl (congrArg Value.bool rfl)) (fun _ => rfl) rfl ?_
    refine RS.off (dj := 17) rfl (.inl (congrArg Value.bool rfl)) (fun _ => rfl) rfl ?_
    refine RS.off (dj := 17) rfl (.inl (congrArg Value.bool rfl)) (fun _ => rfl) rfl ?_
    refine RS.off (dj := 17) rfl (.inl (congrArg Value.bool rfl)) (fun _ => rfl) rfl ?_
    refine RS.off (dj := 17) rfl (.inl (congrArg Value.bool rfl)) (fun _ => rfl) rfl ?_
    refine RS.q rfl (QO.pickF (by rfl) rfl (by rfl)) ?_
    refine RS.q rfl (QO.move) ?_
    refine RS.off (dj := 30) rfl (.inl (congrArg Value.bool rfl)) (fun _ => rfl) rfl ?_
    refine RS.off (dj := 30) rfl (.inl (congrArg Value.bool rfl)) (fun _ => rfl) rfl ?_
    refine RS.off (dj := 30) rfl (.inl (congrArg Value.bool rfl)) (fun _ => rfl) rfl ?_
    refine RS.off (dj := 30) rfl (.inl (congrArg Value.bool rfl)) (fun _ => rfl) rfl ?_
    refine RS.off (dj := 30) rfl (.inl (congrArg Value.bool rfl)) (fun _ => rfl) rfl ?_
    refine RS.off (dj := 30) rfl (.inl (congrArg Value.bool rfl)) (fun _ => rfl) rfl ?_
    refine RS.off (dj := 30) rfl (.inl (congrArg Value.bool rfl)) (fun _ => rfl) rfl ?_
    refine RS.off (dj := 30) rfl (.inl (congrArg Value.bool rfl)) (fun _ => rfl) rfl ?_
    refine RS.off (dj := 30) rfl (.inl (congrArg Value.bool rfl)) (fun _ => rfl) rfl ?_
    refine RS.off (dj := 30) rfl (.inl (congrArg Value.bool rfl)) (fun _ => rfl) rfl ?_
    refine RS.off (dj := 30) rfl (.inl (congrArg Value.bool rfl)) (fun _ => rfl) rfl ?_
    refine RS.q rfl (QO.pickF (by rfl) rfl (by rfl)) ?_
    refine RS.q rfl (QO.assign) ?_
    refine RS.nil ?_
    refine thenC_n ?_
    refine CS.ret ?_
    refine retQ.mk (H' := []) (.inr rfl) (RVs.tmp (by rfl) RVs.nil) (List.nil_sublist _) ?_
    exact ⟨congrArg Value.bool (by unfold insB; first | exact (decide_eq_false (by omega)).symm | exact decide_eq_decide.2 (by omega)), rfl⟩

def tErr (x y w h side : Int) : Int := if regErr x y w h ≠ 0 then regErr x y w h else if side < 1 ∨ 256 < side then 3 else 0
def tL (x y w h side : Int) : List Rg := if tErr x y w h side = 0 then rowsL x y w.toNat h.toNat side.toNat (cntI y h.toNat side.toNat) else []
theorem t_1 {x y w h side : Int} (h1 : regErr x y w h ≠ 0) : tErr x y w h side = regErr x y w h ∧ tL x y w h side = [] := by
  have h2 : tErr x y w h side = regErr x y w h := if_pos h1
  exact ⟨h2, by unfold tL; rw [h2]; exact if_neg h1⟩
theorem t_2 {x y w h side : Int} (h1 : regErr x y w h = 0) (hs : side < 1 ∨ 256 < side) : tErr x y w h side = 3 ∧ tL x y w h side = [] := by
  have h2 : tErr x y w h side = 3 := by unfold tErr; rw [if_neg (Decidable.not_not.2 h1), if_pos hs]
  exact ⟨h2, by unfold tL; rw [h2]; rfl⟩
theorem t_3 {x y : Int} {w h s : Nat} (h1 : regErr x y w h = 0) (hs : ¬ ((s : Int) < 1 ∨ 256 < (s : Int))) : tErr x y w h s = 0 ∧ tL x y w h s = rowsL x y w h s (cntI y h s) := by
  have h2 : tErr x y w h s = 0 := by unfold tErr; rw [if_neg (Decidable.not_not.2 h1), if_neg hs]
  exact ⟨h2, by unfold tL; rw [h2]; rfl⟩

set_option maxRecDepth 100000 in
theorem tiles (x y wi he side : Int) (W : World) : Fn_ Try.prog 9 #[.agg #[iv x, iv y, iv wi, iv he], iv side] W (fun v H => ∃ vs, v = .tuple #[vs, iv (tErr x y wi he side)] ∧ Row 23 4 vs (tL x y wi he side).length (rgs (tL x y wi he side)) H) := by
  refine Fn_.intro Try.func9 rfl rfl (by rfl) ?_
  refine CS.seq ?_
  refine CS.region ?_
  refine RS.box rfl (by rfl) (by rfl) ?_
  intro g2
  refine RS.q rfl (QO.assign) ?_
  refine RS.q rfl (QO.assign) ?_
  refine RS.nil ?_
  refine thenC_n ?_
  refine CS.seq ?_
  refine CS.seq ?_
  refine CS.region ?_
  first | (refine RS.q rfl (QO.loadB ty23 (by rfl) (by repeat (first | exact List.Mem.head _ | refine List.Mem.tail _ ?_)) (by rfl)) ?_) | (refine RS.q rfl (QO.loadA ty23 (by rfl) (by repeat (first | exact List.Mem.head _ | refine List.Mem.tail _ ?_)) (by rfl) (by rfl)) ?_) | (refine RS.q rfl (QO.loadOA ty23 (by rfl) (by assumption) (by rfl)) ?_)
  refine RS.call rfl (by rfl) ok15 (by rfl) (fun w ho => checkRegion _ _ _ _ _) ?_
  rintro _ _ ⟨rfl, rfl⟩
  refine RS.q rfl (QO.assign) ?_
  refine RS.nil ?_
  refine thenC_n ?_
  refine CS.seq ?_
  refine CS.region ?_
  refine RS.q rfl (QO.move) ?_
  refine RS.q rfl (QO.neq (by rfl) (by rfl)) ?_
  refine RS.nil ?_
  refine thenC_n ?_
  refine CS.cond (by rfl) (fun hb0 => ?_) (fun hb0 => ?_)
  · have hb0p := bne_iff_ne.1 hb0
    refine CS.seq ?_
    refine CS.region ?_
    refine RS.q rfl (QO.move) ?_
    refine RS.q rfl (QO.assign) ?_
    refine RS.q rfl (QO.assign) ?_
    refine RS.nil ?_
    refine thenC_n ?_
    refine CS.ret ?_
    refine thenC_r ?_
    refine retQ.mk (H' := []) (.inr rfl) (RVs.tmp (by rfl) (RVs.tmp (by rfl) RVs.nil)) (List.nil_sublist _) ?_
    exact ⟨.slice none 0 0, tv (t_1 hb0p).1.symm, trow_nil (t_1 hb0p).2⟩
  · have hb0p := of_bne_false hb0
    refine CS.skip ?_
    refine thenC_n ?_
    refine CS.seq ?_
    refine CS.seq ?_
    refine CS.region ?_
    refine RS.q rfl (QO.move) ?_
    refine RS.q rfl (QO.lss (by rfl) (by rfl)) ?_
    refine RS.q rfl (QO.move) ?_
    refine RS.split (dj := 23) (by rfl) (fun hb1 => ?_) (fun hb1 => ?_)
    · have hb1p := of_decide_eq_true hb1
      refine RS.off (dj := 23) rfl (.inl (congrArg Value.bool hb1)) (fun _ => rfl) rfl ?_
      refine RS.off (dj := 23) rfl (.inl (congrArg Value.bool hb1)) (fun _ => rfl) rfl ?_
      refine RS.q rfl (QO.pickT (by rfl) hb1 (by rfl)) ?_
      refine RS.nil ?_
      refine thenC_n ?_
      refine CS.condT (by rfl) rfl ?_
      refine CS.seq ?_
      refine CS.region ?_
      refine RS.q rfl (QO.assign) ?_
      refine RS.q rfl (QO.assign) ?_
      refine RS.nil ?_
      refine thenC_n ?_
      refine CS.ret ?_
      refine thenC_r ?_
      refine retQ.mk (H' := []) (.inr rfl) (RVs.tmp (by rfl) (RVs.tmp (by rfl) RVs.nil)) (List.nil_sublist _) ?_
      exact ⟨.slice none 0 0, tv (t_2 (of_bne_false hb0) (by omega)).1.symm, trow_nil (t_2 (of_bne_false hb0) (by omega)).2⟩
    · have hb1p := of_decide_eq_false hb1
      refine RS.on (dj := 23) rfl (congrArg Value.bool hb1) ?_
      refine RS.q rfl (QO.move) ?_
      refine RS.on (dj := 23) rfl (congrArg Value.bool hb1) ?_
      refine RS.q rfl (QO.gtr (by rfl) (by rfl)) ?_
      refine RS.q rfl (QO.pickF (by rfl) hb1 (by rfl)) ?_
      refine RS.nil ?_
      refine thenC_n ?_
      refine CS.cond (by rfl) (fun hb2 => ?_) (fun hb2 => ?_)
      · have hb2p := of_decide_eq_true hb2
        refine CS.seq ?_
        refine CS.region ?_
        refine RS.q rfl (QO.assign) ?_
        refine RS.q rfl (QO.assign) ?_
        refine RS.nil ?_
        refine thenC_n ?_
        refine CS.ret ?_
        refine thenC_r ?_
        refine retQ.mk (H' := []) (.inr rfl) (RVs.tmp (by rfl) (RVs.tmp (by rfl) RVs.nil)) (List.nil_sublist _) ?_
        exact ⟨.slice none 0 0, tv (t_2 (of_bne_false hb0) (by omega)).1.symm, trow_nil (t_2 (of_bne_false hb0) (by omega)).2⟩
      · have hb2p := of_decide_eq_false hb2
        refine CS.skip ?_
        refine thenC_n ?_
        refine CS.seq ?_
        refine CS.region ?_
        refine RS.q rfl (QO.assign) ?_
        refine RS.nil ?_
        refine thenC_n ?_
        refine CS.seq ?_
        refine CS.region ?_
        have hr0 := of_bne_false hb0
        have hro := regErr_ok hr0
        obtain ⟨ww, rfl⟩ : ∃ ww : Nat, wi = ww := ⟨wi.toNat, by omega⟩
        obtain ⟨hh, rfl⟩ : ∃ hh : Nat, he = hh := ⟨he.toNat, by omega⟩
        obtain ⟨s, rfl⟩ : ∃ s : Nat, side = s := ⟨side.toNat, by omega⟩
        have hs : 1 ≤ s := by omega
        have hpx := px_eq (X := x) hs
        have hpy := px_eq (X := y) hs
        refine RS.q rfl (QO.fieldAddr fo23_0 (by rfl)) ?_
        first | (refine RS.q rfl (QO.load ty3 (by rfl) (by repeat (first | exact List.Mem.head _ | refine List.Mem.tail _ ?_)) (by rfl)) ?_) | (refine RS.q rfl (QO.loadO ty3 (by rfl) (by assumption)) ?_) | (refine RS.q rfl (QO.load ty3 (by rfl) (by repeat (first | exact List.Mem.head _ | refine List.Mem.tail _ ?_)) (by assumption)) ?_)
        refine RS.q rfl (QO.move) ?_
        refine RS.call rfl (by rfl) ok26 (by rfl) (fun w ho => floorDiv x s _ hs (by omega) (by omega)) ?_
        rintro _ _ ⟨rfl, rfl⟩
        refine RS.q rfl (QO.move) ?_
        refine RS.q rfl (QO.extract (by rfl) (by rfl)) ?_
        refine RS.qv rfl (QO.extract (by rfl) (by rfl)) (congrArg iv hpx.1.symm) ?_
        refine RS.q rfl (QO.assign) ?_
        refine RS.q rfl (QO.assign) ?_
        refine RS.nil ?_
        refine thenC_n ?_
        refine CS.seq ?_
        refine CS.region ?_
        refine RS.q rfl (QO.fieldAddr fo23_1 (by rfl)) ?_
        first | (refine RS.q rfl (QO.load ty3 (by rfl) (by repeat (first | exact List.Mem.head _ | refine List.Mem.tail _ ?_)) (by rfl)) ?_) | (refine RS.q rfl (QO.loadO ty3 (by rfl) (by assumption)) ?_) | (refine RS.q rfl (QO.load ty3 (by rfl) (by repeat (first | exact List.Mem.head _ | refine List.Mem.tail _ ?_)) (by assumption)) ?_)
        refine RS.q rfl (QO.move) ?_
        refine RS.call rfl (by rfl) ok26 (by rfl) (fun w ho => floorDiv y s _ hs (by omega) (by omega)) ?_
        rintro _ _ ⟨rfl, rfl⟩
        refine RS.q rfl (QO.move) ?_
        refine RS.q rfl (QO.extract (by rfl) (by rfl)) ?_
        refine RS.qv rfl (QO.extract (by rfl) (by rfl)) (congrArg iv hpy.1.symm) ?_
        refine RS.q rfl (QO.assign) ?_
        refine RS.q rfl (QO.assign) ?_
        refine RS.nil ?_
        refine thenC_n ?_
        refine CS.seq ?_
        refine CS.seq ?_
        refine CS.region ?_
        refine RS.q rfl (QO.fieldAddr fo23_1 (by rfl)) ?_
        first | (refine RS.q rfl (QO.load ty3 (by rfl) (by repeat (first | exact List.Mem.head _ | refine List.Mem.tail _ ?_)) (by rfl)) ?_) | (refine RS.q rfl (QO.loadO ty3 (by rfl) (by assumption)) ?_) | (refine RS.q rfl (QO.load ty3 (by rfl) (by repeat (first | exact List.Mem.head _ | refine List.Mem.tail _ ?_)) (by assumption)) ?_)
        refine RS.q rfl (QO.move) ?_
        first | (refine RS.q rfl (QO.sub (by rfl) (by rfl) (by omega) (by omega)) ?_) | (refine RS.q rfl (QO.ibin (by rfl) (by rfl) trivial) ?_)
        refine RS.q rfl (QO.assign) ?_
        refine RS.nil ?_
        refine thenC_n ?_
        refine CS.block ?_
        refine CS.loop (X := Nat × Value × HL) (7 :: 12 :: 13 :: 14 :: 15 :: 45 :: 46 :: 47 :: 48 :: 49 :: 50 :: 51 :: 52 :: 53 :: 54 :: 55 :: 56 :: 57 :: 58 :: 59 :: 60 :: 61 :: 62 :: 63 :: 64 :: 65 :: 66 :: 67 :: 68 :: 69 :: 70 :: 71 :: 72 :: 73 :: 74 :: 75 :: 76 :: 77 :: 78 :: 79 :: 80 :: 81 :: 82 :: 83 :: []) (fun z => [(12, iv (y - (px y s : Nat) + ((s * z.1 : Nat) : Int))), (7, z.2.1)]) (fun z => ⟨g2, 23, [iv x, iv y, iv (ww : Int), iv (hh : Int)]⟩ :: z.2.2) (fun z => z.1 ≤ cntI y hh s ∧ Row 23 4 z.2.1 (rowsL x y ww hh s z.1).length (rgs (rowsL x y ww hh s z.1)) z.2.2) (fun z => cntI y hh s - z.1) (0, .slice none 0 0, []) ⟨Nat.zero_le _, .nil⟩ ?_ ?_ ?_
        · exact kn_cons (congrArg iv (by simp)) (kn_cons (by rfl) kn_nil)
        · exact (by repeat (first | exact List.Sublist.refl _ | exact List.nil_sublist _ | refine List.Sublist.cons_cons _ ?_ | refine List.Sublist.cons _ ?_ | exact Sbp.refl | exact Sbp.nil | refine Sbp.cons (by repeat (first | exact Rem.head | apply Rem.tail)) ?_ | exact Sbp.app | refine Sbp.skip ?_))
        · intro z gj10 hz
          obtain ⟨j, vo, Hr⟩ := z
          obtain ⟨hj, hrow⟩ := hz
          simp only at hj hrow
          have hsj := si_bd (X := y) (w := hh) hs hj
          show CS _ _ _ _ _ (puts (mix _ _ _) [(12, iv (y - (px y s : Nat) + ((s * j : Nat) : Int))), (7, vo)]) (⟨g2, 23, [iv x, iv y, iv (ww : Int), iv (hh : Int)]⟩ :: Hr)
          refine CS.seq ?_
          refine CS.seq ?_
          refine CS.region ?_
          refine RS.q rfl (QO.move) ?_
          refine RS.q rfl (QO.fieldAddr fo23_1 (by rfl)) ?_
          first | (refine RS.q rfl (QO.load ty3 (by rfl) (by repeat (first | exact List.Mem.head _ | refine List.Mem.tail _ ?_)) (by rfl)) ?_) | (refine RS.q rfl (QO.loadO ty3 (by rfl) (by assumption)) ?_) | (refine RS.q rfl (QO.load ty3 (by rfl) (by repeat (first | exact List.Mem.head _ | refine List.Mem.tail _ ?_)) (by assumption)) ?_)
          refine RS.q rfl (QO.fieldAddr fo23_3 (by rfl)) ?_
          first | (refine RS.q rfl (QO.load ty3 (by rfl) (by repeat (first | exact List.Mem.head _ | refine List.Mem.tail _ ?_)) (by rfl)) ?_) | (refine RS.q rfl (QO.loadO ty3 (by rfl) (by assumption)) ?_) | (refine RS.q rfl (QO.load ty3 (by rfl) (by repeat (first | exact List.Mem.head _ | refine List.Mem.tail _ ?_)) (by assumption)) ?_)
          first | (refine RS.q rfl (QO.add (by rfl) (by rfl) (by omega) (by omega)) ?_) | (refine RS.q rfl (QO.ibin (by rfl) (by rfl) trivial) ?_)
          refine RS.q rfl (QO.lss (by rfl) (by rfl)) ?_
          refine RS.nil ?_
          refine thenC_n ?_
          refine CS.cond (by rfl) (fun hb3 => ?_) (fun hb3 => ?_)
          · have hb3p := of_decide_eq_true hb3
            refine CS.skip ?_
            refine thenC_n ?_
            refine CS.seq ?_
            refine CS.block ?_
            refine CS.seq ?_
            refine CS.region ?_
            refine RS.q rfl (QO.fieldAddr fo23_0 (by rfl)) ?_
            first | (refine RS.q rfl (QO.load ty3 (by rfl) (by repeat (first | exact List.Mem.head _ | refine List.Mem.tail _ ?_)) (by rfl)) ?_) | (refine RS.q rfl (QO.loadO ty3 (by rfl) (by assumption)) ?_) | (refine RS.q rfl (QO.load ty3 (by rfl) (by repeat (first | exact List.Mem.head _ | refine List.Mem.tail _ ?_)) (by assumption)) ?_)
            refine RS.q rfl (QO.move) ?_
            first | (refine RS.q rfl (QO.sub (by rfl) (by rfl) (by omega) (by omega)) ?_) | (refine RS.q rfl (QO.ibin (by rfl) (by rfl) trivial) ?_)
            refine RS.q rfl (QO.assign) ?_
            refine RS.nil ?_
            refine thenC_n ?_
            refine CS.block ?_
            have hjl : j < cntI y hh s := (cntI_iff hs).2 (by omega)
            have hsjl := (cntI_iff hs).1 hjl
            clear hj
            refine CS.loop (X := Nat × Value × HL) (7 :: 13 :: 14 :: 15 :: 59 :: 60 :: 61 :: 62 :: 63 :: 64 :: 65 :: 66 :: 67 :: 68 :: 69 :: 70 :: 71 :: 72 :: 73 :: 74 :: 75 :: 76 :: 77 :: 78 :: 79 :: 80 :: 81 :: 82 :: 83 :: []) (fun z => [(13, iv (x - (px x s : Nat) + ((s * z.1 : Nat) : Int))), (7, z.2.1)]) (fun z => ⟨g2, 23, [iv x, iv y, iv (ww : Int), iv (hh : Int)]⟩ :: z.2.2) (fun z => z.1 ≤ cntI x ww s ∧ Row 23 4 z.2.1 (tilesL x y ww hh s j z.1).length (rgs (tilesL x y ww hh s j z.1)) z.2.2) (fun z => cntI x ww s - z.1) (0, vo, Hr) ⟨Nat.zero_le _, by rw [tilesL_zero]; exact hrow⟩ ?_ ?_ ?_
            · exact kn_cons (congrArg iv (by simp)) (kn_cons (by rfl) kn_nil)
            · exact (by repeat (first | exact List.Sublist.refl _ | exact List.nil_sublist _ | refine List.Sublist.cons_cons _ ?_ | refine List.Sublist.cons _ ?_ | exact Sbp.refl | exact Sbp.nil | refine Sbp.cons (by repeat (first | exact Rem.head | apply Rem.tail)) ?_ | exact Sbp.app | refine Sbp.skip ?_))
            · intro z gj13 hz
              clear hrow
              obtain ⟨i, vo, Hr⟩ := z
              obtain ⟨hi, hrow⟩ := hz
              simp only at hi hrow
              have hsi0 := si_bd (X := x) (w := ww) hs hi
              show CS _ _ _ _ _ (puts (mix _ _ _) [(13, iv (x - (px x s : Nat) + ((s * i : Nat) : Int))), (7, vo)]) (⟨g2, 23, [iv x, iv y, iv (ww : Int), iv (hh : Int)]⟩ :: Hr)
              refine CS.seq ?_
              refine CS.seq ?_
              refine CS.region ?_
              refine RS.q rfl (QO.move) ?_
              refine RS.q rfl (QO.fieldAddr fo23_0 (by rfl)) ?_
              first | (refine RS.q rfl (QO.load ty3 (by rfl) (by repeat (first | exact List.Mem.head _ | refine List.Mem.tail _ ?_)) (by rfl)) ?_) | (refine RS.q rfl (QO.loadO ty3 (by rfl) (by assumption)) ?_) | (refine RS.q rfl (QO.load ty3 (by rfl) (by repeat (first | exact List.Mem.head _ | refine List.Mem.tail _ ?_)) (by assumption)) ?_)
              refine RS.q rfl (QO.fieldAddr fo23_2 (by rfl)) ?_
              first | (refine RS.q rfl (QO.load ty3 (by rfl) (by repeat (first | exact List.Mem.head _ | refine List.Mem.tail _ ?_)) (by rfl)) ?_) | (refine RS.q rfl (QO.loadO ty3 (by rfl) (by assumption)) ?_) | (refine RS.q rfl (QO.load ty3 (by rfl) (by repeat (first | exact List.Mem.head _ | refine List.Mem.tail _ ?_)) (by assumption)) ?_)
              first | (refine RS.q rfl (QO.add (by rfl) (by rfl) (by omega) (by omega)) ?_) | (refine RS.q rfl (QO.ibin (by rfl) (by rfl) trivial) ?_)
              refine RS.q rfl (QO.lss (by rfl) (by rfl)) ?_
              refine RS.nil ?_
              refine thenC_n ?_
              refine CS.cond (by rfl) (fun hb4 => ?_) (fun hb4 => ?_)
              · have hb4p := of_decide_eq_true hb4
                refine CS.skip ?_
                refine thenC_n ?_
                refine CS.seq ?_
                refine CS.block ?_
                refine CS.seq ?_
                refine CS.region ?_
                have hil : i < cntI x ww s := (cntI_iff hs).2 (by omega)
                have hsi := (cntI_iff hs).1 hil
                first | (refine RS.q rfl (QO.loadB ty23 (by rfl) (by repeat (first | exact List.Mem.head _ | refine List.Mem.tail _ ?_)) (by rfl)) ?_) | (refine RS.q rfl (QO.loadA ty23 (by rfl) (by repeat (first | exact List.Mem.head _ | refine List.Mem.tail _ ?_)) (by rfl) (by rfl)) ?_) | (refine RS.q rfl (QO.loadOA ty23 (by rfl) (by assumption) (by rfl)) ?_)
                refine RS.q rfl (QO.move) ?_
                refine RS.q rfl (QO.move) ?_
                refine RS.q rfl (QO.move) ?_
                refine RS.q rfl (QO.move) ?_
                refine RS.qv rfl (QO.build ty23 pl23 (by rfl)) ((show _ = Value.agg #[iv (x - (px x s : Nat) + ((s * i : Nat) : Int)), iv (y - (px y s : Nat) + ((s * j : Nat) : Int)), iv (s : Int), iv (s : Int)] from rfl)) ?_
                refine RS.call rfl (by rfl) ok27 (by rfl) (fun w ho => common_tile x y ww hh s i j _ hs (by omega) (by omega) (by omega) (by omega) (by omega) hil hjl) ?_
                rintro _ _ ⟨rfl, rfl⟩
                refine RS.q rfl (QO.move) ?_
                refine RS.q rfl (QO.extract (by rfl) (by rfl)) ?_
                refine RS.q rfl (QO.extract (by rfl) (by rfl)) ?_
                refine RS.alloc rfl ty23 ?_
                intro g14
                first | refine RS.storeB ty23 (by rfl) (by rfl) (by rfl) (by rfl) (by rfl) (by repeat (first | exact Upd.head | apply Upd.tail)) (by rfl) ?_ | refine RS.storeP ty23 (by rfl) (by rfl) (by rfl) (by rfl) (by rfl) (by repeat (first | exact Upd.head | apply Upd.tail)) (by rfl) ?_
                refine RS.q rfl (QO.assign) ?_
                refine RS.nil ?_
                refine thenC_n ?_
                refine CS.seq ?_
                refine CS.region ?_
                refine RS.q rfl (QO.move) ?_
                refine RS.nil ?_
                refine thenC_n ?_
                refine CS.condT (by rfl) rfl ?_
                refine CS.region ?_
                have hln := tilesL_len (X := x) (Y := y) (j := j) (i := i) (w := ww) (h := hh) hs (by omega) (by omega) (by omega) (by omega)
                refine RS.q rfl (QO.move) ?_
                first | (refine RS.q rfl (QO.loadB ty23 (by rfl) (by repeat (first | exact List.Mem.head _ | refine List.Mem.tail _ ?_)) (by rfl)) ?_) | (refine RS.q rfl (QO.loadA ty23 (by rfl) (by repeat (first | exact List.Mem.head _ | refine List.Mem.tail _ ?_)) (by rfl) (by rfl)) ?_) | (refine RS.q rfl (QO.loadOA ty23 (by rfl) (by assumption) (by rfl)) ?_)
                refine RS.buildSlice rfl Try.underlying34 ty23 (by decide) (by decide) (by rfl) (by rfl) ?_
                intro g82
                refine RS.appendRow rfl Try.underlying34 ty23 (by rfl) hrow (by repeat (first | exact Suf.base | apply Suf.cons)) (by rfl) (Src.blk (by repeat (first | exact List.Mem.head _ | refine List.Mem.tail _ ?_))) (by rfl) (by rfl) (by decide) (by decide) (by unfold maxLen; omega) (by omega) ?_
                intro v83 H83 hrow83
                refine RS.q rfl (QO.assign) ?_
                refine RS.nil ?_
                refine blockC_n ?_
                refine thenC_n ?_
                refine CS.region ?_
                refine RS.q rfl (QO.move) ?_
                refine RS.q rfl (QO.move) ?_
                first | (refine RS.q rfl (QO.add (by rfl) (by rfl) (by omega) (by omega)) ?_) | (refine RS.q rfl (QO.ibin (by rfl) (by rfl) trivial) ?_)
                refine RS.q rfl (QO.assign) ?_
                refine RS.nil ?_
                refine loopQ_n (by intro t ht; repeat (first | with_reducible exact rfl | exact frame_puts ht (frame_mix ht) _ rfl | (refine frame_put rfl ht ?_) | (refine frame_puts ht ?_ _ rfl) | exact frame_mix ht | (refine frame_mix2 rfl ht ?_) | exact rfl)) ?_
                have hrw : Row 23 4 v83 ((tilesL x y ww hh s j i).length + 1) (rgs (tilesL x y ww hh s j i) ++ rgc (tile x y ww hh s i j)) H83 := hrow83
                exact ⟨(i + 1, v83, H83), ⟨by show i + 1 ≤ cntI x ww s; omega, by show Row 23 4 v83 (tilesL x y ww hh s j (i + 1)).length (rgs (tilesL x y ww hh s j (i + 1))) H83; rw [tilesL_succ, rgs_append, List.length_append]; exact hrw⟩, by show cntI x ww s - (i + 1) < cntI x ww s - i; omega, kn_cons (congrArg iv (by show x - (px x s : Nat) + ((s * i : Nat) : Int) + (s : Int) = x - (px x s : Nat) + ((s * (i + 1) : Nat) : Int); rw [Nat.mul_succ]; omega)) (kn_cons (by rfl) kn_nil), (by repeat (first | exact List.Sublist.refl _ | exact List.nil_sublist _ | refine List.Sublist.cons_cons _ ?_ | refine List.Sublist.cons _ ?_ | exact Sbp.refl | exact Sbp.nil | refine Sbp.cons (by repeat (first | exact Rem.head | apply Rem.tail)) ?_ | exact Sbp.app | refine Sbp.skip ?_))⟩
              · have hb4p := of_decide_eq_false hb4
                refine CS.exit ?_
                refine thenC_x ?_
                refine loopQ_x ?_
                refine blockC_x ?_
                refine blockC_n ?_
                refine thenC_n ?_
                refine CS.region ?_
                refine RS.q rfl (QO.move) ?_
                refine RS.q rfl (QO.move) ?_
                first | (refine RS.q rfl (QO.add (by rfl) (by rfl) (by omega) (by omega)) ?_) | (refine RS.q rfl (QO.ibin (by rfl) (by rfl) trivial) ?_)
                refine RS.q rfl (QO.assign) ?_
                refine RS.nil ?_
                refine loopQ_n (by intro t ht; repeat (first | with_reducible exact rfl | exact frame_puts ht (frame_mix ht) _ rfl | (refine frame_put rfl ht ?_) | (refine frame_puts ht ?_ _ rfl) | exact frame_mix ht | (refine frame_mix2 rfl ht ?_) | exact rfl)) ?_
                have hie : ¬ i < cntI x ww s := fun hi9 => by have := (cntI_iff hs).1 hi9; omega
                have hie2 : i = cntI x ww s := by omega
                rw [hie2, tilesL_row] at hrow
                exact ⟨(j + 1, vo, Hr), ⟨by show j + 1 ≤ cntI y hh s; omega, hrow⟩, by show cntI y hh s - (j + 1) < cntI y hh s - j; omega, kn_cons (congrArg iv (by show y - (px y s : Nat) + ((s * j : Nat) : Int) + (s : Int) = y - (px y s : Nat) + ((s * (j + 1) : Nat) : Int); rw [Nat.mul_succ]; omega)) (kn_cons (by rfl) kn_nil), (by repeat (first | exact List.Sublist.refl _ | exact List.nil_sublist _ | refine List.Sublist.cons_cons _ ?_ | refine List.Sublist.cons _ ?_ | exact Sbp.refl | exact Sbp.nil | refine Sbp.cons (by repeat (first | exact Rem.head | apply Rem.tail)) ?_ | exact Sbp.app | refine Sbp.skip ?_))⟩
          · have hb3p := of_decide_eq_false hb3
            refine CS.exit ?_
            refine thenC_x ?_
            refine loopQ_x ?_
            refine blockC_x ?_
            refine thenC_n ?_
            refine CS.seq ?_
            refine CS.region ?_
            have hje : ¬ j < cntI y hh s := fun hj9 => by have := (cntI_iff hs).1 hj9; omega
            refine RS.q rfl (QO.move) ?_
            refine RS.q rfl (QO.assign) ?_
            refine RS.q rfl (QO.assign) ?_
            refine RS.nil ?_
            refine thenC_n ?_
            refine CS.ret ?_
            refine retQ.mk (H' := Hr) (.inr rfl) (RVs.tmp (by rfl) (RVs.tmp (by rfl) RVs.nil)) (by repeat (first | exact List.Sublist.refl _ | exact List.nil_sublist _ | refine List.Sublist.cons_cons _ ?_ | refine List.Sublist.cons _ ?_ | exact Sbp.refl | exact Sbp.nil | refine Sbp.cons (by repeat (first | exact Rem.head | apply Rem.tail)) ?_ | exact Sbp.app | refine Sbp.skip ?_)) ?_
            have hje2 : j = cntI y hh s := by omega
            rw [hje2] at hrow
            exact ⟨vo, tv (t_3 hr0 (by omega)).1.symm, trow (t_3 hr0 (by omega)).2 hrow⟩

end Go.Proofs.Ytdfbeigjinhgiaa

namespace Go.Proofs.Ytdfbeigjinhgiaa
open Go Go.RowKit

/-- Called over the caller's own blocks H (those beyond W), f hands back a value and leaves blocks that stand in the relation R. -/
def FnH (P : Program) (f : FuncId) (args : Array Value) (W : World) (H : HL) (R : Value → HL → Prop) : Prop :=
  ∀ w, Own W w H → Calls P f args w (fun x w' => ∃ v H', x = .returned v ∧ Own W w' H' ∧ R v H')
theorem FnH.mono {P : Program} {f : FuncId} {args : Array Value} {W : World} {H : HL} {R R' : Value → HL → Prop} (h : FnH P f args W H R) (hr : ∀ v H, R v H → R' v H) : FnH P f args W H R' :=
  fun w ho => Calls.mono (h w ho) fun _ _ ⟨v, H, h1, h2, h3⟩ => ⟨v, H, h1, h2, hr _ _ h3⟩
theorem FnH.intro {P : Program} {W : World} {f : FuncId} {fn : Func} {c : Code} {n : Nat} {args : Array Value} {H : HL} {R : Value → HL → Prop} (hf : P.funcs[f]? = some fn) (hb : fn.body = some c) (hn : fn.ntmps = n) (hargs : Nat.ble args.size n = true)
    (h : CS P W n c (retQ P fn.results R) (argsE args) H) : FnH P f args W H R := by
  subst hn
  intro w0 ho0
  refine calls_of_wp hf hb (wp_mono (h _ _ (rep_start _ _ (Nat.le_of_ble_eq_true hargs)) ho0) fun x a w hq => ?_)
  obtain ⟨e, H, hr, ho, hx, vs, H', hv, hs, hR⟩ := hq
  have hv' := hv.run hr ho
  have key : a.defers = [] ∧ ∃ v, (results fn a.tmps).run P w = .ok v w ∧ ∃ v' H', Ending.returned v = .returned v' ∧ Own W w H' ∧ R v' H' := by
    refine ⟨hr.defers, one vs, ?_, one vs, H', rfl, ho.sub hs, hR⟩
    have hres : results fn a.tmps = (do
        let vs ← fn.results.mapM (resOf a.tmps)
        Pure.pure (if h : vs.size = 1 then vs[0] else .tuple vs)) := by
      unfold results
      congr 1
    rw [hres, Array.mapM_eq_mapM_toList]
    simp only [Sem.run_bind, Sem.run_map, hv', Result.andThen_ok, Sem.run_pure]
    congr 1
    match vs with
    | [] => rfl
    | [v] => rfl
    | v :: u :: l => simp [one]
  rcases hx with rfl | rfl <;> exact key
section
variable {P : Program} {W : World} {n : Nat} {ops : Array Oper} {Q : Env → HL → Prop} {rest : List Oper} {e : Env} {H : HL}
variable {d : Tmp} {ty : TypeId} {pos : String} {af : Array Edge}
theorem RS.callH {fo : Operand} {xs : Array Operand} {ats : Array TypeId} {f : FuncId} {first cap : Array Value} {argl : List Value} {R : Value → HL → Prop} (H1 : HL) (hd : Nat.blt d n = true) (hf : ev e fo = .func (.func f) first cap) (hok : callOK P f = true)
    (ha : first.toList ++ xs.toList.map (ev e) ++ cap.toList = argl) (hs : Sbp H1 H) (hc : ∀ w, Own W w H1 → FnH P f argl.toArray W H1 R) (k : ∀ v Hn, R v Hn → RS P W n ops Q rest (put e d v) Hn) :
    RS P W n ops Q (⟨some d, .call ⟨.value fo, xs, ats⟩, ty, pos, af, none⟩ :: rest) e H := by
  intro a w hr ho
  have ho := ho.sbp hs
  simp only [wpList, Region.wanted, if_true]
  left
  unfold Oper.wp
  have hrun : (execOp a.eval ⟨some d, .call ⟨.value fo, xs, ats⟩, ty, pos, af, none⟩).run P w = .ok (.enter f argl.toArray) w := by
    rw [hr.eval]
    simp only [execOp, resolve, hf, Deferred.ofValue, Sem.run_bind, Sem.run_pure, Result.andThen_ok, invoke, args_eq ha, run_callFunc hok]
  rw [hrun, Oper.upon_enter]
  refine Calls.mono (hc w ho w ho) fun x w' hx => ?_
  obtain ⟨v, Hn, rfl, h2, h3⟩ := hx
  exact k v Hn h3 _ _ (hr.put (d := some d) hd v) h2
end
end Go.Proofs.Ytdfbeigjinhgiaa

namespace Go.Proofs.Ytdfbeigjinhgiaa
open Go Go.Proofs Go.RowKit

theorem ok22 : callOK Try.prog 22 = true := by kernel_rfl
theorem ok17 : callOK Try.prog 17 = true := by kernel_rfl
theorem ok18 : callOK Try.prog 18 = true := by kernel_rfl
theorem ok19 : callOK Try.prog 19 = true := by kernel_rfl
set_option maxRecDepth 100000 in
theorem offset_ (X Y x y he : Int) (a i j o : Nat) (W : World) (hx : x = X + i) (hy : y = Y + j) (ho_ : o = 4 * (a * j + i)) (hX : -1048576 ≤ X ∧ X ≤ 1048576) (hY : -1048576 ≤ Y ∧ Y ≤ 1048576) (hi : i ≤ 1048576) (hj : j ≤ 1048576) (hob : o ≤ 1000000000) : Fn_ Try.prog 18 #[.agg #[iv X, iv Y, iv (a : Int), iv he], iv x, iv y] W (fun v H => v = iv (o : Int) ∧ H = []) := by
  have hmul : (j : Int) * (a : Int) = ((a * j : Nat) : Int) := by rw [Int.natCast_mul, Int.mul_comm]
  refine Fn_.intro Try.func18 rfl rfl (by rfl) ?_
  refine CS.seq ?_
  refine CS.region ?_
  refine RS.box rfl (by rfl) (by rfl) ?_
  intro g3
  refine RS.q rfl (QO.assign) ?_
  refine RS.nil ?_
  refine thenC_n ?_
  refine CS.seq ?_
  refine CS.region ?_
  refine RS.q rfl (QO.move) ?_
  refine RS.q rfl (QO.fieldAddr fo23_1 (by rfl)) ?_
  first | (refine RS.q rfl (QO.load ty3 (by rfl) (by repeat (first | exact List.Mem.head _ | refine List.Mem.tail _ ?_)) (by rfl)) ?_) | (refine RS.q rfl (QO.loadO ty3 (by rfl) (by assumption)) ?_) | (refine RS.q rfl (QO.load ty3 (by rfl) (by repeat (first | exact List.Mem.head _ | refine List.Mem.tail _ ?_)) (by assumption)) ?_)
  first | (refine RS.qv rfl (QO.sub (by rfl) (by rfl) (by omega) (by omega)) (congrArg iv (show y - Y = (j : Int) by omega)) ?_) | (refine RS.qv rfl (QO.ibin (by rfl) (by rfl) trivial) (congrArg iv (show y - Y = (j : Int) by omega)) ?_)
  refine RS.q rfl (QO.fieldAddr fo23_2 (by rfl)) ?_
  first | (refine RS.q rfl (QO.load ty3 (by rfl) (by repeat (first | exact List.Mem.head _ | refine List.Mem.tail _ ?_)) (by rfl)) ?_) | (refine RS.q rfl (QO.loadO ty3 (by rfl) (by assumption)) ?_) | (refine RS.q rfl (QO.load ty3 (by rfl) (by repeat (first | exact List.Mem.head _ | refine List.Mem.tail _ ?_)) (by assumption)) ?_)
  refine RS.qv rfl (QO.mul (by rfl) (by rfl) (by rw [hmul]; omega) (by rw [hmul]; omega)) (congrArg iv (show (j : Int) * (a : Int) = ((a * j : Nat) : Int) by rw [Int.natCast_mul, Int.mul_comm])) ?_
  refine RS.q rfl (QO.move) ?_
  first | (refine RS.q rfl (QO.add (by rfl) (by rfl) (by omega) (by omega)) ?_) | (refine RS.q rfl (QO.ibin (by rfl) (by rfl) trivial) ?_)
  refine RS.q rfl (QO.fieldAddr fo23_0 (by rfl)) ?_
  first | (refine RS.q rfl (QO.load ty3 (by rfl) (by repeat (first | exact List.Mem.head _ | refine List.Mem.tail _ ?_)) (by rfl)) ?_) | (refine RS.q rfl (QO.loadO ty3 (by rfl) (by assumption)) ?_) | (refine RS.q rfl (QO.load ty3 (by rfl) (by repeat (first | exact List.Mem.head _ | refine List.Mem.tail _ ?_)) (by assumption)) ?_)
  first | (refine RS.q rfl (QO.sub (by rfl) (by rfl) (by omega) (by omega)) ?_) | (refine RS.q rfl (QO.ibin (by rfl) (by rfl) trivial) ?_)
  first | (refine RS.qv rfl (QO.mul (by rfl) (by rfl) (by omega) (by omega)) (congrArg iv (show 4 * (((a * j : Nat) : Int) + x - X) = (o : Int) by rw [ho_]; omega)) ?_) | (refine RS.qv rfl (QO.ibin (by rfl) (by rfl) trivial) (congrArg iv (show 4 * (((a * j : Nat) : Int) + x - X) = (o : Int) by rw [ho_]; omega)) ?_)
  refine RS.q rfl (QO.assign) ?_
  refine RS.nil ?_
  refine thenC_n ?_
  refine CS.ret ?_
  refine retQ.mk (H' := []) (.inr rfl) (RVs.tmp (by rfl) RVs.nil) (List.nil_sublist _) ?_
  exact ⟨rfl, rfl⟩

def atE (x y X Y : Int) (a b : Nat) : Int := if atB x y X Y a b then 0 else 5
def atQ (xs : List Nat) (x y X Y : Int) (a b : Nat) (c : Nat) : Nat := if atB x y X Y a b then cl (pixF xs X Y a b x y c) else 0
/-- a pixel, cleaned as far as k -/
def ckL (q : Nat → Nat) (k : Nat) : List Value := [flt (if 0 < k then cl (q 0) else q 0), flt (if 1 < k then cl (q 1) else q 1), flt (if 2 < k then cl (q 2) else q 2), flt (if 3 < k then cl (q 3) else q 3)]
theorem at_pix {xs : List Nat} {X Y : Int} {a b i j : Nat} (hi : i < a) (hj : j < b) (c : Nat) : pixF xs X Y a b (X + i) (Y + j) c = xs.getD (4 * (a * j + i) + c) 0 := by
  rw [pixF_at (near_in (by omega) (by omega)) (near_in (by omega) (by omega)), Nat.mul_comm a]
theorem at_bd {a b i j : Nat} (hi : i < a) (hj : j < b) : a * j + i < a * b := by
  have := (pix_bd hi hj).2.2
  rwa [Nat.mul_comm j] at this

/-- a frame of one pixel: its numbers -/
def fillV (q : Nat → Nat) (N : Nat) : List Nat := (List.range N).map fun i => cl (q (i % 4))
def putF (xs : List Nat) (q : Nat → Nat) (o : Nat) (i : Nat) : Nat := if o ≤ i ∧ i < o + 4 then q (i - o) else xs.getD i 0
def putV (xs : List Nat) (q : Nat → Nat) (X Y : Int) (a b : Nat) (x y : Int) : List Nat := overV (xs.map cl) (fillV q 4) X Y a b x y 1 1
theorem commonW (ax ay aw ah bx bz bw bh rx ry rw_ rh : Int) (bb : Bool) (W : World) (hT : cmT ax ay aw ah bx bz bw bh = (rx, ry, rw_, rh)) (hB : cmB ax ay aw ah bx bz bw bh = bb) (q0 : -1000000000 ≤ ax ∧ ax ≤ 1000000000) (q1 : -1000000000 ≤ ay ∧ ay ≤ 1000000000) (q2 : -1000000000 ≤ aw ∧ aw ≤ 1000000000) (q3 : -1000000000 ≤ ah ∧ ah ≤ 1000000000) (q4 : -1000000000 ≤ bx ∧ bx ≤ 1000000000) (q5 : -1000000000 ≤ bz ∧ bz ≤ 1000000000) (q6 : -1000000000 ≤ bw ∧ bw ≤ 1000000000) (q7 : -1000000000 ≤ bh ∧ bh ≤ 1000000000) :
    Fn_ Try.prog 27 #[.agg #[iv ax, iv ay, iv aw, iv ah], .agg #[iv bx, iv bz, iv bw, iv bh]] W (fun v H => v = .tuple #[.agg #[iv rx, iv ry, iv rw_, iv rh], .bool bb] ∧ H = []) := by
  refine (common_ _ _ _ _ _ _ _ _ W q0 q1 q2 q3 q4 q5 q6 q7).mono fun v H h => ?_
  rw [hT, hB] at h
  exact h
theorem cmT_F {ax ay aw ah bx bz bw bh : Int} (h : cmB ax ay aw ah bx bz bw bh = false) : cmT ax ay aw ah bx bz bw bh = (0, 0, 0, 0) := if_neg (by rw [h]; decide)

set_option maxRecDepth 100000 in
theorem copyInto_F (X Y X2 Y2 : Int) (a b a2 b2 g n c n2 c2 : Nat) (A2 : Option Addr) (ys zs : List Nat) (K : HL) (W : World) (hl : ys.length = 4 * (a * b)) (hn : n = 4 * (a * b)) (hl2 : zs.length = n2) (hA2 : FS W A2 zs) (hn2 : n2 = 4 * (a2 * b2)) (hX : -1048576 ≤ X ∧ X ≤ 1048576) (hY : -1048576 ≤ Y ∧ Y ≤ 1048576) (ha : 1 ≤ a ∧ a ≤ 256) (hb : 1 ≤ b ∧ b ≤ 256) (hX2 : -1048576 ≤ X2 ∧ X2 ≤ 1048576) (hY2 : -1048576 ≤ Y2 ∧ Y2 ≤ 1048576) (ha2 : 1 ≤ a2 ∧ a2 ≤ 256) (hb2 : 1 ≤ b2 ∧ b2 ≤ 256) (hB : cmB X Y a b X2 Y2 a2 b2 = false) : FnH Try.prog 19 #[.agg #[iv X, iv Y, iv (a : Int), iv (b : Int), .slice (some ⟨g, 0, none⟩) n c], .agg #[iv X2, iv Y2, iv (a2 : Int), iv (b2 : Int), .slice A2 n2 c2]] W (⟨g, 43, ys.map flt⟩ :: K) (fun v H => v = .tuple #[] ∧ H = ⟨g, 43, (overV ys zs X Y a b X2 Y2 a2 b2).map flt⟩ :: K) := by
  refine FnH.intro Try.func19 rfl rfl (by rfl) ?_
  refine CS.seq ?_
  refine CS.region ?_
  refine RS.box rfl (by rfl) (by rfl) ?_
  intro g2
  refine RS.box rfl (by rfl) (by rfl) ?_
  intro g3
  refine RS.nil ?_
  refine thenC_n ?_
  refine CS.seq ?_
  refine CS.region ?_
  refine RS.q rfl (QO.fieldAddr fo26_0 (by rfl)) ?_
  first | (refine RS.q rfl (QO.loadB ty23 (by rfl) (by repeat (first | exact List.Mem.head _ | refine List.Mem.tail _ ?_)) (by rfl)) ?_) | (refine RS.q rfl (QO.loadA ty23 (by rfl) (by repeat (first | exact List.Mem.head _ | refine List.Mem.tail _ ?_)) (by rfl) (by rfl)) ?_) | (refine RS.q rfl (QO.loadOA ty23 (by rfl) (by assumption) (by rfl)) ?_)
  refine RS.q rfl (QO.fieldAddr fo26_0 (by rfl)) ?_
  first | (refine RS.q rfl (QO.loadB ty23 (by rfl) (by repeat (first | exact List.Mem.head _ | refine List.Mem.tail _ ?_)) (by rfl)) ?_) | (refine RS.q rfl (QO.loadA ty23 (by rfl) (by repeat (first | exact List.Mem.head _ | refine List.Mem.tail _ ?_)) (by rfl) (by rfl)) ?_) | (refine RS.q rfl (QO.loadOA ty23 (by rfl) (by assumption) (by rfl)) ?_)
  refine RS.call rfl (by rfl) ok27 (by rfl) (fun w ho => commonW X Y a b X2 Y2 a2 b2 0 0 0 0 false _ (cmT_F hB) hB (by omega) (by omega) (by omega) (by omega) (by omega) (by omega) (by omega) (by omega)) ?_
  rintro _ _ ⟨rfl, rfl⟩
  refine RS.q rfl (QO.move) ?_
  refine RS.q rfl (QO.extract (by rfl) (by rfl)) ?_
  refine RS.q rfl (QO.extract (by rfl) (by rfl)) ?_
  refine RS.alloc rfl ty23 ?_
  intro g4
  first | refine RS.storeB ty23 (by rfl) (by rfl) (by rfl) (by rfl) (by rfl) (by repeat (first | exact Upd.head | apply Upd.tail)) (by rfl) ?_ | refine RS.storeP ty23 (by rfl) (by rfl) (by rfl) (by rfl) (by rfl) (by repeat (first | exact Upd.head | apply Upd.tail)) (by rfl) ?_
  refine RS.q rfl (QO.assign) ?_
  refine RS.nil ?_
  refine thenC_n ?_
  refine CS.seq ?_
  refine CS.seq ?_
  refine CS.region ?_
  refine RS.q rfl (QO.move) ?_
  refine RS.q rfl (QO.not (by rfl)) ?_
  refine RS.nil ?_
  refine thenC_n ?_
  refine CS.condT (by rfl) rfl ?_
  refine CS.ret ?_
  refine thenC_r ?_
  refine retQ.mk (H' := ⟨g, 43, (overV ys zs X Y a b X2 Y2 a2 b2).map flt⟩ :: K) (.inr rfl) RVs.nil (by rw [overV_apart hl (apart hB)]; exact (by repeat (first | exact List.Sublist.refl _ | exact List.nil_sublist _ | refine List.Sublist.cons_cons _ ?_ | refine List.Sublist.cons _ ?_ | exact Sbp.refl | exact Sbp.nil | refine Sbp.cons (by repeat (first | exact Rem.head | apply Rem.tail)) ?_ | exact Sbp.app | refine Sbp.skip ?_))) ?_
  exact ⟨rfl, rfl⟩

theorem row_bd {a b r p w : Nat} (hp : p + w ≤ a) (hr : r < b) : a * r + p + w ≤ a * b := by
  have h1 : a * (r + 1) ≤ a * b := Nat.mul_le_mul_left a hr
  rw [Nat.mul_add] at h1
  omega

set_option maxRecDepth 100000 in
theorem copyInto_T (X Y X2 Y2 : Int) (a b a2 b2 g n c n2 c2 : Nat) (A2 : Option Addr) (ys zs : List Nat) (K : HL) (W : World) (hl : ys.length = 4 * (a * b)) (hn : n = 4 * (a * b)) (hl2 : zs.length = n2) (hA2 : FS W A2 zs) (hn2 : n2 = 4 * (a2 * b2)) (hX : -1048576 ≤ X ∧ X ≤ 1048576) (hY : -1048576 ≤ Y ∧ Y ≤ 1048576) (ha : 1 ≤ a ∧ a ≤ 256) (hb : 1 ≤ b ∧ b ≤ 256) (hX2 : -1048576 ≤ X2 ∧ X2 ≤ 1048576) (hY2 : -1048576 ≤ Y2 ∧ Y2 ≤ 1048576) (ha2 : 1 ≤ a2 ∧ a2 ≤ 256) (hb2 : 1 ≤ b2 ∧ b2 ≤ 256) (hB : cmB X Y a b X2 Y2 a2 b2 = true) (p q p2 q2 ww hh : Nat) (hT : cmT X Y a b X2 Y2 a2 b2 = (X + p, Y + q, (ww : Int), (hh : Int))) (mt : Meets X Y a b X2 Y2 a2 b2 p q p2 q2 ww hh) : FnH Try.prog 19 #[.agg #[iv X, iv Y, iv (a : Int), iv (b : Int), .slice (some ⟨g, 0, none⟩) n c], .agg #[iv X2, iv Y2, iv (a2 : Int), iv (b2 : Int), .slice A2 n2 c2]] W (⟨g, 43, ys.map flt⟩ :: K) (fun v H => v = .tuple #[] ∧ H = ⟨g, 43, (overV ys zs X Y a b X2 Y2 a2 b2).map flt⟩ :: K) := by
  subst hl2
  have hab1 := Nat.mul_le_mul ha2.1 hb2.1
  have hab2 := Nat.mul_le_mul ha.2 hb.2
  have hab3 := Nat.mul_le_mul ha2.2 hb2.2
  have mt1 := mt.x
  have mt2 := mt.y
  have mt3 := mt.w1
  have mt4 := mt.h1
  have mt5 := mt.pa
  have mt6 := mt.pa2
  have mt7 := mt.qb
  have mt8 := mt.qb2
  obtain ⟨bA, oA, rfl, hcell⟩ := hA2 (by omega)
  refine FnH.intro Try.func19 rfl rfl (by rfl) ?_
  refine CS.seq ?_
  refine CS.region ?_
  refine RS.box rfl (by rfl) (by rfl) ?_
  intro g2
  refine RS.box rfl (by rfl) (by rfl) ?_
  intro g3
  refine RS.nil ?_
  refine thenC_n ?_
  refine CS.seq ?_
  refine CS.region ?_
  refine RS.q rfl (QO.fieldAddr fo26_0 (by rfl)) ?_
  first | (refine RS.q rfl (QO.loadB ty23 (by rfl) (by repeat (first | exact List.Mem.head _ | refine List.Mem.tail _ ?_)) (by rfl)) ?_) | (refine RS.q rfl (QO.loadA ty23 (by rfl) (by repeat (first | exact List.Mem.head _ | refine List.Mem.tail _ ?_)) (by rfl) (by rfl)) ?_) | (refine RS.q rfl (QO.loadOA ty23 (by rfl) (by assumption) (by rfl)) ?_)
  refine RS.q rfl (QO.fieldAddr fo26_0 (by rfl)) ?_
  first | (refine RS.q rfl (QO.loadB ty23 (by rfl) (by repeat (first | exact List.Mem.head _ | refine List.Mem.tail _ ?_)) (by rfl)) ?_) | (refine RS.q rfl (QO.loadA ty23 (by rfl) (by repeat (first | exact List.Mem.head _ | refine List.Mem.tail _ ?_)) (by rfl) (by rfl)) ?_) | (refine RS.q rfl (QO.loadOA ty23 (by rfl) (by assumption) (by rfl)) ?_)
  refine RS.call rfl (by rfl) ok27 (by rfl) (fun w ho => commonW X Y a b X2 Y2 a2 b2 (X + p) (Y + q) ww hh true _ hT hB (by omega) (by omega) (by omega) (by omega) (by omega) (by omega) (by omega) (by omega)) ?_
  rintro _ _ ⟨rfl, rfl⟩
  refine RS.q rfl (QO.move) ?_
  refine RS.q rfl (QO.extract (by rfl) (by rfl)) ?_
  refine RS.q rfl (QO.extract (by rfl) (by rfl)) ?_
  refine RS.alloc rfl ty23 ?_
  intro g4
  first | refine RS.storeB ty23 (by rfl) (by rfl) (by rfl) (by rfl) (by rfl) (by repeat (first | exact Upd.head | apply Upd.tail)) (by rfl) ?_ | refine RS.storeP ty23 (by rfl) (by rfl) (by rfl) (by rfl) (by rfl) (by repeat (first | exact Upd.head | apply Upd.tail)) (by rfl) ?_
  refine RS.q rfl (QO.assign) ?_
  refine RS.nil ?_
  refine thenC_n ?_
  refine CS.seq ?_
  refine CS.seq ?_
  refine CS.region ?_
  refine RS.q rfl (QO.move) ?_
  refine RS.q rfl (QO.not (by rfl)) ?_
  refine RS.nil ?_
  refine thenC_n ?_
  refine CS.condF (by rfl) rfl ?_
  refine CS.skip ?_
  refine thenC_n ?_
  refine CS.seq ?_
  refine CS.region ?_
  refine RS.q rfl (QO.fieldAddr fo23_1 (by rfl)) ?_
  first | (refine RS.q rfl (QO.load ty3 (by rfl) (by repeat (first | exact List.Mem.head _ | refine List.Mem.tail _ ?_)) (by rfl)) ?_) | (refine RS.q rfl (QO.loadO ty3 (by rfl) (by assumption)) ?_) | (refine RS.q rfl (QO.load ty3 (by rfl) (by repeat (first | exact List.Mem.head _ | refine List.Mem.tail _ ?_)) (by assumption)) ?_)
  refine RS.q rfl (QO.assign) ?_
  refine RS.nil ?_
  refine thenC_n ?_
  refine CS.block ?_
  refine CS.loop (X := Nat) (6 :: 7 :: 8 :: 9 :: 22 :: 23 :: 24 :: 25 :: 26 :: 27 :: 28 :: 29 :: 30 :: 31 :: 32 :: 33 :: 34 :: 35 :: 36 :: 37 :: 38 :: 39 :: 40 :: 41 :: 42 :: 43 :: 44 :: 45 :: 46 :: 47 :: 48 :: 49 :: 50 :: 51 :: 52 :: 53 :: 54 :: 55 :: 56 :: 57 :: 58 :: 59 :: 60 :: 61 :: 62 :: 63 :: []) (fun j => [(6, iv (Y + (q : Int) + (j : Int)))]) (fun j => ⟨g4, 23, [iv (X + (p : Int)), iv (Y + (q : Int)), iv (ww : Int), iv (hh : Int)]⟩ :: ⟨g3, 26, [iv X2, iv Y2, iv (a2 : Int), iv (b2 : Int), .slice (some ⟨bA, oA, none⟩) zs.length c2]⟩ :: ⟨g2, 26, [iv X, iv Y, iv (a : Int), iv (b : Int), .slice (some ⟨g, 0, none⟩) n c]⟩ :: ⟨g, 43, (mixL (4 * (a * b)) (inP a p ww q j 0) (madeF (pixF zs X2 Y2 a2 b2) X Y a) ys).map flt⟩ :: K) (fun j => j ≤ hh) (fun j => hh - j) 0 (Nat.zero_le _) ?_ ?_ ?_
  · exact kn_cons (congrArg iv (by simp)) kn_nil
  · exact (by rw [over_zero hl]; exact (by repeat (first | exact List.Sublist.refl _ | exact List.nil_sublist _ | refine List.Sublist.cons_cons _ ?_ | refine List.Sublist.cons _ ?_ | exact Sbp.refl | exact Sbp.nil | refine Sbp.cons (by repeat (first | exact Rem.head | apply Rem.tail)) ?_ | exact Sbp.app | refine Sbp.skip ?_)))
  · intro j gj4 hz
    refine CS.seq ?_
    refine CS.seq ?_
    refine CS.region ?_
    refine RS.q rfl (QO.move) ?_
    refine RS.q rfl (QO.fieldAddr fo23_1 (by rfl)) ?_
    first | (refine RS.q rfl (QO.load ty3 (by rfl) (by repeat (first | exact List.Mem.head _ | refine List.Mem.tail _ ?_)) (by rfl)) ?_) | (refine RS.q rfl (QO.loadO ty3 (by rfl) (by assumption)) ?_) | (refine RS.q rfl (QO.load ty3 (by rfl) (by repeat (first | exact List.Mem.head _ | refine List.Mem.tail _ ?_)) (by assumption)) ?_)
    refine RS.q rfl (QO.fieldAddr fo23_3 (by rfl)) ?_
    first | (refine RS.q rfl (QO.load ty3 (by rfl) (by repeat (first | exact List.Mem.head _ | refine List.Mem.tail _ ?_)) (by rfl)) ?_) | (refine RS.q rfl (QO.loadO ty3 (by rfl) (by assumption)) ?_) | (refine RS.q rfl (QO.load ty3 (by rfl) (by repeat (first | exact List.Mem.head _ | refine List.Mem.tail _ ?_)) (by assumption)) ?_)
    first | (refine RS.q rfl (QO.add (by rfl) (by rfl) (by omega) (by omega)) ?_) | (refine RS.q rfl (QO.ibin (by rfl) (by rfl) trivial) ?_)
    refine RS.q rfl (QO.lss (by rfl) (by rfl)) ?_
    refine RS.nil ?_
    refine thenC_n ?_
    refine CS.cond (by rfl) (fun hb0 => ?_) (fun hb0 => ?_)
    · have hb0p := of_decide_eq_true hb0
      refine CS.skip ?_
      refine thenC_n ?_
      refine CS.seq ?_
      refine CS.block ?_
      refine CS.seq ?_
      refine CS.draw 14 rfl (by kernel_rfl) (by kernel_rfl) ?_
      have hjh : j < hh := by omega
      obtain ⟨o1, ho1⟩ : ∃ o, o = 4 * (a * (q + j) + p) := ⟨_, rfl⟩
      obtain ⟨o2, ho2⟩ : ∃ o, o = 4 * (a2 * (q2 + j) + p2) := ⟨_, rfl⟩
      have hv1 := row_bd (a := a) (b := b) (r := q + j) (p := p) (w := ww) mt5 (by omega)
      have hv2 := row_bd (a := a2) (b := b2) (r := q2 + j) (p := p2) (w := ww) mt6 (by omega)
      refine RT.take (i := 0) rfl (by kernel_rfl) rfl (QO.fieldAddr fo26_0 (by rfl)) ?_
      first | (refine RT.take (i := 1) rfl (by kernel_rfl) rfl (QO.loadB ty23 (by rfl) (by repeat (first | exact List.Mem.head _ | refine List.Mem.tail _ ?_)) (by rfl)) ?_) | (refine RT.take (i := 1) rfl (by kernel_rfl) rfl (QO.loadA ty23 (by rfl) (by repeat (first | exact List.Mem.head _ | refine List.Mem.tail _ ?_)) (by rfl) (by rfl)) ?_) | (refine RT.take (i := 1) rfl (by kernel_rfl) rfl (QO.loadOA ty23 (by rfl) (by assumption) (by rfl)) ?_)
      refine RT.take (i := 2) rfl (by kernel_rfl) rfl (QO.fieldAddr fo23_0 (by rfl)) ?_
      first | (refine RT.take (i := 3) rfl (by kernel_rfl) rfl (QO.load ty3 (by rfl) (by repeat (first | exact List.Mem.head _ | refine List.Mem.tail _ ?_)) (by rfl)) ?_) | (refine RT.take (i := 3) rfl (by kernel_rfl) rfl (QO.loadO ty3 (by rfl) (by assumption)) ?_) | (refine RT.take (i := 3) rfl (by kernel_rfl) rfl (QO.load ty3 (by rfl) (by repeat (first | exact List.Mem.head _ | refine List.Mem.tail _ ?_)) (by assumption)) ?_)
      refine RT.take (i := 4) rfl (by kernel_rfl) rfl (QO.move) ?_
      refine RT.take (i := 6) rfl (by kernel_rfl) rfl (QO.fieldAddr fo26_0 (by rfl)) ?_
      first | (refine RT.take (i := 7) rfl (by kernel_rfl) rfl (QO.loadB ty23 (by rfl) (by repeat (first | exact List.Mem.head _ | refine List.Mem.tail _ ?_)) (by rfl)) ?_) | (refine RT.take (i := 7) rfl (by kernel_rfl) rfl (QO.loadA ty23 (by rfl) (by repeat (first | exact List.Mem.head _ | refine List.Mem.tail _ ?_)) (by rfl) (by rfl)) ?_) | (refine RT.take (i := 7) rfl (by kernel_rfl) rfl (QO.loadOA ty23 (by rfl) (by assumption) (by rfl)) ?_)
      refine RT.take (i := 8) rfl (by kernel_rfl) rfl (QO.fieldAddr fo23_0 (by rfl)) ?_
      first | (refine RT.take (i := 9) rfl (by kernel_rfl) rfl (QO.load ty3 (by rfl) (by repeat (first | exact List.Mem.head _ | refine List.Mem.tail _ ?_)) (by rfl)) ?_) | (refine RT.take (i := 9) rfl (by kernel_rfl) rfl (QO.loadO ty3 (by rfl) (by assumption)) ?_) | (refine RT.take (i := 9) rfl (by kernel_rfl) rfl (QO.load ty3 (by rfl) (by repeat (first | exact List.Mem.head _ | refine List.Mem.tail _ ?_)) (by assumption)) ?_)
      refine RT.take (i := 10) rfl (by kernel_rfl) rfl (QO.move) ?_
      refine RT.one (i := 5) (by kernel_rfl) rfl rfl ?_
      refine RS.call rfl (by rfl) ok18 (by rfl) (fun w ho => offset_ X Y (X + p) (Y + q + j) b a p (q + j) o1 _ rfl (by omega) ho1 hX hY (by omega) (by omega) (by omega)) ?_
      rintro _ _ ⟨rfl, rfl⟩
      refine RS.nil ⟨(by repeat (first | exact List.Sublist.refl _ | exact List.nil_sublist _ | refine List.Sublist.cons_cons _ ?_ | refine List.Sublist.cons _ ?_ | exact Sbp.refl | exact Sbp.nil | refine Sbp.cons (by repeat (first | exact Rem.head | apply Rem.tail)) ?_ | exact Sbp.app | refine Sbp.skip ?_)), ?_⟩
      refine RT.one (i := 11) (by kernel_rfl) rfl rfl ?_
      refine RS.call rfl (by rfl) ok18 (by rfl) (fun w ho => offset_ X2 Y2 (X + p) (Y + q + j) b2 a2 p2 (q2 + j) o2 _ mt.x (by omega) ho2 hX2 hY2 (by omega) (by omega) (by omega)) ?_
      rintro _ _ ⟨rfl, rfl⟩
      refine RS.nil ⟨(by repeat (first | exact List.Sublist.refl _ | exact List.nil_sublist _ | refine List.Sublist.cons_cons _ ?_ | refine List.Sublist.cons _ ?_ | exact Sbp.refl | exact Sbp.nil | refine Sbp.cons (by repeat (first | exact Rem.head | apply Rem.tail)) ?_ | exact Sbp.app | refine Sbp.skip ?_)), ?_⟩
      refine RT.take (i := 12) rfl (by kernel_rfl) rfl (QO.assign) ?_
      refine RT.take (i := 13) rfl (by kernel_rfl) rfl (QO.assign) ?_
      refine RT.done (by kernel_rfl) ?_
      refine thenC_n ?_
      refine CS.seq ?_
      refine CS.region ?_
      refine RS.q rfl (QO.fieldAddr fo23_2 (by rfl)) ?_
      first | (refine RS.q rfl (QO.load ty3 (by rfl) (by repeat (first | exact List.Mem.head _ | refine List.Mem.tail _ ?_)) (by rfl)) ?_) | (refine RS.q rfl (QO.loadO ty3 (by rfl) (by assumption)) ?_) | (refine RS.q rfl (QO.load ty3 (by rfl) (by repeat (first | exact List.Mem.head _ | refine List.Mem.tail _ ?_)) (by assumption)) ?_)
      first | (refine RS.q rfl (QO.mul (by rfl) (by rfl) (by omega) (by omega)) ?_) | (refine RS.q rfl (QO.ibin (by rfl) (by rfl) trivial) ?_)
      refine RS.q rfl (QO.move) ?_
      refine RS.nil ?_
      refine thenC_n ?_
      refine CS.block ?_
      refine CS.loop (X := Nat) (9 :: 46 :: 47 :: 48 :: 49 :: 50 :: 51 :: 52 :: 53 :: 54 :: 55 :: 56 :: 57 :: 58 :: 59 :: 60 :: 61 :: 62 :: 63 :: []) (fun k => [(46, iv (k : Int))]) (fun k => ⟨g4, 23, [iv (X + (p : Int)), iv (Y + (q : Int)), iv (ww : Int), iv (hh : Int)]⟩ :: ⟨g3, 26, [iv X2, iv Y2, iv (a2 : Int), iv (b2 : Int), .slice (some ⟨bA, oA, none⟩) zs.length c2]⟩ :: ⟨g2, 26, [iv X, iv Y, iv (a : Int), iv (b : Int), .slice (some ⟨g, 0, none⟩) n c]⟩ :: ⟨g, 43, (mixL (4 * (a * b)) (inP a p ww q j k) (madeF (pixF zs X2 Y2 a2 b2) X Y a) ys).map flt⟩ :: K) (fun k => k ≤ 4 * ww) (fun k => 4 * ww - k) 0 (Nat.zero_le _) ?_ ?_ ?_
      · exact (by repeat (first | exact kn_nil | refine kn_cons (by rfl) ?_))
      · exact (by repeat (first | exact List.Sublist.refl _ | exact List.nil_sublist _ | refine List.Sublist.cons_cons _ ?_ | refine List.Sublist.cons _ ?_ | exact Sbp.refl | exact Sbp.nil | refine Sbp.cons (by repeat (first | exact Rem.head | apply Rem.tail)) ?_ | exact Sbp.app | refine Sbp.skip ?_))
      · intro k gj8 hz
        refine CS.seq ?_
        refine CS.region ?_
        refine RS.q rfl (QO.lss (by rfl) (by rfl)) ?_
        refine RS.nil ?_
        refine thenC_n ?_
        refine CS.seq ?_
        refine CS.cond (by rfl) (fun hb1 => ?_) (fun hb1 => ?_)
        · have hb1p := of_decide_eq_true hb1
          refine CS.skip ?_
          refine thenC_n ?_
          refine CS.seq ?_
          refine CS.block ?_
          refine CS.seq ?_
          refine CS.region ?_
          refine RS.q rfl (QO.move) ?_
          refine RS.q rfl (QO.assign) ?_
          refine RS.nil ?_
          refine thenC_n ?_
          refine CS.draw 14 rfl (by kernel_rfl) (by kernel_rfl) ?_
          refine RT.take (i := 0) rfl (by kernel_rfl) rfl (QO.fieldAddr fo26_1 (by rfl)) ?_
          first | (refine RT.take (i := 1) rfl (by kernel_rfl) rfl (QO.load ty24 (by rfl) (by repeat (first | exact List.Mem.head _ | refine List.Mem.tail _ ?_)) (by rfl)) ?_) | (refine RT.take (i := 1) rfl (by kernel_rfl) rfl (QO.loadO ty24 (by rfl) (by assumption)) ?_) | (refine RT.take (i := 1) rfl (by kernel_rfl) rfl (QO.load ty24 (by rfl) (by repeat (first | exact List.Mem.head _ | refine List.Mem.tail _ ?_)) (by assumption)) ?_)
          refine RT.take (i := 2) rfl (by kernel_rfl) rfl (QO.move) ?_
          refine RT.take (i := 3) rfl (by kernel_rfl) rfl (QO.move) ?_
          first | (refine RT.takev (i := 4) rfl (by kernel_rfl) rfl (QO.add (by rfl) (by rfl) (by omega) (by omega)) (congrArg iv (show (o1 : Int) + (k : Int) = ((o1 + k : Nat) : Int) by omega)) ?_) | (refine RT.takev (i := 4) rfl (by kernel_rfl) rfl (QO.ibin (by rfl) (by rfl) trivial) (congrArg iv (show (o1 : Int) + (k : Int) = ((o1 + k : Nat) : Int) by omega)) ?_)
          refine RT.take (i := 5) rfl (by kernel_rfl) rfl (QO.fieldAddr fo26_1 (by rfl)) ?_
          first | (refine RT.take (i := 6) rfl (by kernel_rfl) rfl (QO.load ty24 (by rfl) (by repeat (first | exact List.Mem.head _ | refine List.Mem.tail _ ?_)) (by rfl)) ?_) | (refine RT.take (i := 6) rfl (by kernel_rfl) rfl (QO.loadO ty24 (by rfl) (by assumption)) ?_) | (refine RT.take (i := 6) rfl (by kernel_rfl) rfl (QO.load ty24 (by rfl) (by repeat (first | exact List.Mem.head _ | refine List.Mem.tail _ ?_)) (by assumption)) ?_)
          refine RT.take (i := 7) rfl (by kernel_rfl) rfl (QO.move) ?_
          refine RT.take (i := 8) rfl (by kernel_rfl) rfl (QO.move) ?_
          first | (refine RT.takev (i := 9) rfl (by kernel_rfl) rfl (QO.add (by rfl) (by rfl) (by omega) (by omega)) (congrArg iv (show (o2 : Int) + (k : Int) = ((o2 + k : Nat) : Int) by omega)) ?_) | (refine RT.takev (i := 9) rfl (by kernel_rfl) rfl (QO.ibin (by rfl) (by rfl) trivial) (congrArg iv (show (o2 : Int) + (k : Int) = ((o2 + k : Nat) : Int) by omega)) ?_)
          first | (refine RT.take (i := 10) rfl (by kernel_rfl) rfl (QO.idx0 Try.underlying24 ty43 (by rfl) (by rfl) (by rfl) (by omega)) ?_) | (refine RT.take (i := 10) rfl (by kernel_rfl) rfl (QO.idxn Try.underlying24 ty43 (by rfl) (by rfl) (by rfl) (by omega)) ?_) | (refine RT.take (i := 10) rfl (by kernel_rfl) rfl (QO.idx1 Try.underlying24 ty43 (by rfl) (by rfl) (by omega) (by omega)) ?_)
          refine RT.take (i := 11) rfl (by kernel_rfl) rfl (QO.loadO ty43 (by rfl) (hcell _ _ (by rw [List.getElem?_eq_getElem (show o2 + k < zs.length by omega), getD_at]))) ?_
          refine RT.one (i := 12) (by kernel_rfl) rfl rfl ?_
          refine RS.call rfl (by rfl) ok32 (by rfl) (fun w ho => clean _ _) ?_
          rintro _ _ ⟨rfl, rfl⟩
          refine RS.nil ⟨(by repeat (first | exact List.Sublist.refl _ | exact List.nil_sublist _ | refine List.Sublist.cons_cons _ ?_ | refine List.Sublist.cons _ ?_ | exact Sbp.refl | exact Sbp.nil | refine Sbp.cons (by repeat (first | exact Rem.head | apply Rem.tail)) ?_ | exact Sbp.app | refine Sbp.skip ?_)), ?_⟩
          first | (refine RT.take (i := 13) rfl (by kernel_rfl) rfl (QO.idx0 Try.underlying24 ty43 (by rfl) (by rfl) (by rfl) (by omega)) ?_) | (refine RT.take (i := 13) rfl (by kernel_rfl) rfl (QO.idxn Try.underlying24 ty43 (by rfl) (by rfl) (by rfl) (by omega)) ?_) | (refine RT.take (i := 13) rfl (by kernel_rfl) rfl (QO.idx1 Try.underlying24 ty43 (by rfl) (by rfl) (by omega) (by omega)) ?_)
          refine RT.tail (i := 14) (by kernel_rfl) rfl rfl ?_
          refine RS.store1e ty43 rfl (by rfl) (by rfl) (by rfl) (over_set (N := 4 * (a * b)) (j := j) (k := k) (w := ww) (f := madeF (pixF zs X2 Y2 a2 b2) X Y a) (ys := ys) ho1 mt5 (by omega) (over_at (j := j) (k := k) (w := ww) (b2 := b2) ho1 ho2 mt.x mt.y (by omega) mt5 mt6 (by omega))) (by repeat (first | exact Upd.head | apply Upd.tail)) (by rw [List.length_map, mixL_len]; omega) ?_
          refine RS.nil ?_
          refine RT.done (by kernel_rfl) ?_
          refine blockC_n ?_
          refine thenC_n ?_
          refine CS.region ?_
          first | (refine RS.q rfl (QO.add (by rfl) (by rfl) (by omega) (by omega)) ?_) | (refine RS.q rfl (QO.ibin (by rfl) (by rfl) trivial) ?_)
          refine RS.q rfl (QO.move) ?_
          refine RS.nil ?_
          refine loopQ_n (by intro t ht; repeat (first | with_reducible exact rfl | exact frame_puts ht (frame_mix ht) _ rfl | (refine frame_put rfl ht ?_) | (refine frame_puts ht ?_ _ rfl) | exact frame_mix ht | (refine frame_mix2 rfl ht ?_) | exact rfl)) ?_
          exact ⟨k + 1, by omega, by omega, (by repeat (first | exact kn_nil | refine kn_cons (by rfl) ?_)), (by repeat (first | exact List.Sublist.refl _ | exact List.nil_sublist _ | refine List.Sublist.cons_cons _ ?_ | refine List.Sublist.cons _ ?_ | exact Sbp.refl | exact Sbp.nil | refine Sbp.cons (by repeat (first | exact Rem.head | apply Rem.tail)) ?_ | exact Sbp.app | refine Sbp.skip ?_))⟩
        · have hb1p := of_decide_eq_false hb1
          refine CS.exit ?_
          refine thenC_x ?_
          refine loopQ_x ?_
          refine blockC_x ?_
          refine blockC_n ?_
          refine thenC_n ?_
          refine CS.region ?_
          refine RS.q rfl (QO.move) ?_
          first | (refine RS.q rfl (QO.add (by rfl) (by rfl) (by omega) (by omega)) ?_) | (refine RS.q rfl (QO.ibin (by rfl) (by rfl) trivial) ?_)
          refine RS.q rfl (QO.assign) ?_
          refine RS.nil ?_
          refine loopQ_n (by intro t ht; repeat (first | with_reducible exact rfl | exact frame_puts ht (frame_mix ht) _ rfl | (refine frame_put rfl ht ?_) | (refine frame_puts ht ?_ _ rfl) | exact frame_mix ht | (refine frame_mix2 rfl ht ?_) | exact rfl)) ?_
          exact ⟨j + 1, by omega, by omega, kn_cons (congrArg iv (show Y + (q : Int) + (j : Int) + 1 = Y + (q : Int) + ((j + 1 : Nat) : Int) by omega)) kn_nil, (by obtain rfl : k = 4 * ww := (by omega); rw [over_row]; exact (by repeat (first | exact List.Sublist.refl _ | exact List.nil_sublist _ | refine List.Sublist.cons_cons _ ?_ | refine List.Sublist.cons _ ?_ | exact Sbp.refl | exact Sbp.nil | refine Sbp.cons (by repeat (first | exact Rem.head | apply Rem.tail)) ?_ | exact Sbp.app | refine Sbp.skip ?_)))⟩
    · have hb0p := of_decide_eq_false hb0
      refine CS.exit ?_
      refine thenC_x ?_
      refine loopQ_x ?_
      refine blockC_x ?_
      refine retQ.mk (H' := ⟨g, 43, (overV ys zs X Y a b X2 Y2 a2 b2).map flt⟩ :: K) (.inl rfl) RVs.nil (by obtain rfl : j = hh := (by omega); rw [← over_done mt.mx mt.my mt.mw mt.mh]; exact (by repeat (first | exact List.Sublist.refl _ | exact List.nil_sublist _ | refine List.Sublist.cons_cons _ ?_ | refine List.Sublist.cons _ ?_ | exact Sbp.refl | exact Sbp.nil | refine Sbp.cons (by repeat (first | exact Rem.head | apply Rem.tail)) ?_ | exact Sbp.app | refine Sbp.skip ?_))) ?_
      exact ⟨rfl, rfl⟩

theorem copyInto (X Y X2 Y2 : Int) (a b a2 b2 g n c n2 c2 : Nat) (A2 : Option Addr) (ys zs : List Nat) (K : HL) (W : World) (hl : ys.length = 4 * (a * b)) (hn : n = 4 * (a * b)) (hl2 : zs.length = n2) (hA2 : FS W A2 zs) (hn2 : n2 = 4 * (a2 * b2)) (hX : -1048576 ≤ X ∧ X ≤ 1048576) (hY : -1048576 ≤ Y ∧ Y ≤ 1048576) (ha : 1 ≤ a ∧ a ≤ 256) (hb : 1 ≤ b ∧ b ≤ 256) (hX2 : -1048576 ≤ X2 ∧ X2 ≤ 1048576) (hY2 : -1048576 ≤ Y2 ∧ Y2 ≤ 1048576) (ha2 : 1 ≤ a2 ∧ a2 ≤ 256) (hb2 : 1 ≤ b2 ∧ b2 ≤ 256) : FnH Try.prog 19 #[.agg #[iv X, iv Y, iv (a : Int), iv (b : Int), .slice (some ⟨g, 0, none⟩) n c], .agg #[iv X2, iv Y2, iv (a2 : Int), iv (b2 : Int), .slice A2 n2 c2]] W (⟨g, 43, ys.map flt⟩ :: K) (fun v H => v = .tuple #[] ∧ H = ⟨g, 43, (overV ys zs X Y a b X2 Y2 a2 b2).map flt⟩ :: K) := by
  rcases Bool.eq_false_or_eq_true (cmB X Y a b X2 Y2 a2 b2) with h | h
  · obtain ⟨p, q, p2, q2, w, h', hT, mt⟩ := meets h
    exact copyInto_T X Y X2 Y2 a b a2 b2 g n c n2 c2 A2 ys zs K W hl hn hl2 hA2 hn2 hX hY ha hb hX2 hY2 ha2 hb2 h p q p2 q2 w h' hT mt
  · exact copyInto_F X Y X2 Y2 a b a2 b2 g n c n2 c2 A2 ys zs K W hl hn hl2 hA2 hn2 hX hY ha hb hX2 hY2 ha2 hb2 h

def cutE (rx ry rw_ rh X Y a b : Int) : Int := if regErr rx ry rw_ rh ≠ 0 then regErr rx ry rw_ rh else if insB rx ry rw_ rh X Y a b then 0 else 5
def cutV (xs : List Nat) (X Y : Int) (a b : Nat) (rx ry rw_ rh : Int) : List Nat := madeV (pixF xs X Y a b) rx ry rw_.toNat (4 * (rw_.toNat * rh.toNat))
theorem insB_T {ax ay aw ah bx bz bw bh : Int} (h : insB ax ay aw ah bx bz bw bh = true) : bx ≤ ax ∧ bz ≤ ay ∧ ax ≤ bx + bw - aw ∧ ay ≤ bz + bh - ah := of_decide_eq_true h
theorem cut_1 {rx ry rw_ rh X Y a b : Int} (h : regErr rx ry rw_ rh ≠ 0) : cutE rx ry rw_ rh X Y a b = regErr rx ry rw_ rh := if_pos h
theorem cut_2 {rx ry rw_ rh X Y a b : Int} (h : regErr rx ry rw_ rh = 0) (h2 : insB rx ry rw_ rh X Y a b = false) : cutE rx ry rw_ rh X Y a b = 5 := by unfold cutE; rw [if_neg (by simpa using h), if_neg (by rw [h2]; decide)]
theorem cut_3 {rx ry rw_ rh X Y a b : Int} (h : regErr rx ry rw_ rh = 0) (h2 : insB rx ry rw_ rh X Y a b = true) : cutE rx ry rw_ rh X Y a b = 0 := by unfold cutE; rw [if_neg (by simpa using h), if_pos h2]
theorem repl_flt (n : Nat) : List.replicate n (flt 0) = (List.replicate n 0).map flt := by simp

set_option maxRecDepth 100000 in
theorem cut_ (X Y : Int) (a b : Nat) (A : Option Addr) (n c : Nat) (xs : List Nat) (rx ry rw_ rh : Int) (W : World) (hn : xs.length = n) (hA : FS W A xs) (hN : n = 4 * (a * b)) (hc : n ≤ c) (hcm : c ≤ maxLen) (hX : -1048576 ≤ X ∧ X ≤ 1048576) (hY : -1048576 ≤ Y ∧ Y ≤ 1048576) (ha : 1 ≤ a ∧ a ≤ 256) (hb : 1 ≤ b ∧ b ≤ 256) (hfr : frErr X Y a b n = 0) : Fn_ Try.prog 10 #[.agg #[iv X, iv Y, iv (a : Int), iv (b : Int), .slice A n c], .agg #[iv rx, iv ry, iv rw_, iv rh]] W (fun v H => FrR (cutE rx ry rw_ rh X Y a b) rx ry rw_ rh (cutV xs X Y a b rx ry rw_ rh) v H) := by
  subst hn
  have hab1 := Nat.mul_le_mul ha.1 hb.1
  have hab2 := Nat.mul_le_mul ha.2 hb.2
  have hcast : ((a * b : Nat) : Int) = (a : Int) * (b : Int) := Int.natCast_mul ..
  have h41 : 4 * (a : Int) * (b : Int) = 4 * ((a : Int) * (b : Int)) := Int.mul_assoc ..
  have hcm2 := hcm
  unfold maxLen at hcm2
  refine Fn_.intro Try.func10 rfl rfl (by rfl) ?_
  refine CS.seq ?_
  refine CS.region ?_
  refine RS.box rfl (by rfl) (by rfl) ?_
  intro g2
  refine RS.box rfl (by rfl) (by rfl) ?_
  intro g3
  refine RS.alloc rfl ty26 ?_
  intro g4
  refine RS.q rfl (QO.assign) ?_
  refine RS.nil ?_
  refine thenC_n ?_
  refine CS.seq ?_
  refine CS.seq ?_
  refine CS.region ?_
  first | (refine RS.q rfl (QO.loadB ty26 (by rfl) (by repeat (first | exact List.Mem.head _ | refine List.Mem.tail _ ?_)) (by rfl)) ?_) | (refine RS.q rfl (QO.loadA ty26 (by rfl) (by repeat (first | exact List.Mem.head _ | refine List.Mem.tail _ ?_)) (by rfl) (by rfl)) ?_) | (refine RS.q rfl (QO.loadOA ty26 (by rfl) (by assumption) (by rfl)) ?_)
  refine RS.call rfl (by rfl) ok16 (by rfl) (fun w ho => check _ _ _ _ _ _ _ _) ?_
  rintro _ _ ⟨rfl, rfl⟩
  refine RS.q rfl (QO.assign) ?_
  refine RS.nil ?_
  refine thenC_n ?_
  refine CS.seq ?_
  refine CS.region ?_
  refine RS.q rfl (QO.move) ?_
  refine RS.qv rfl (QO.neq (by rfl) (by rfl)) (congrArg Value.bool (show (frErr X Y (a : Int) (b : Int) xs.length != 0) = false from by rw [hfr]; rfl)) ?_
  refine RS.nil ?_
  refine thenC_n ?_
  refine CS.condF (by rfl) rfl ?_
  refine CS.skip ?_
  refine thenC_n ?_
  refine CS.seq ?_
  refine CS.seq ?_
  refine CS.region ?_
  first | (refine RS.q rfl (QO.loadB ty23 (by rfl) (by repeat (first | exact List.Mem.head _ | refine List.Mem.tail _ ?_)) (by rfl)) ?_) | (refine RS.q rfl (QO.loadA ty23 (by rfl) (by repeat (first | exact List.Mem.head _ | refine List.Mem.tail _ ?_)) (by rfl) (by rfl)) ?_) | (refine RS.q rfl (QO.loadOA ty23 (by rfl) (by assumption) (by rfl)) ?_)
  refine RS.call rfl (by rfl) ok15 (by rfl) (fun w ho => checkRegion _ _ _ _ _) ?_
  rintro _ _ ⟨rfl, rfl⟩
  refine RS.q rfl (QO.assign) ?_
  refine RS.nil ?_
  refine thenC_n ?_
  refine CS.seq ?_
  refine CS.region ?_
  refine RS.q rfl (QO.move) ?_
  refine RS.q rfl (QO.neq (by rfl) (by rfl)) ?_
  refine RS.nil ?_
  refine thenC_n ?_
  refine CS.cond (by rfl) (fun hb0 => ?_) (fun hb0 => ?_)
  · have hb0p := bne_iff_ne.1 hb0
    refine CS.seq ?_
    refine CS.region ?_
    refine RS.q rfl (QO.build ty26 pl26 (by rfl)) ?_
    refine RS.q rfl (QO.move) ?_
    first | refine RS.storeB ty26 (by rfl) (by rfl) (by rfl) (by rfl) (by rfl) (by repeat (first | exact Upd.head | apply Upd.tail)) (by rfl) ?_ | refine RS.storeP ty26 (by rfl) (by rfl) (by rfl) (by rfl) (by rfl) (by repeat (first | exact Upd.head | apply Upd.tail)) (by rfl) ?_
    refine RS.q rfl (QO.assign) ?_
    refine RS.nil ?_
    refine thenC_n ?_
    refine CS.ret ?_
    refine thenC_r ?_
    refine retQ.mk (H' := []) (.inr rfl) (RVs.cellA ty26 (by rfl) (by repeat (first | exact List.Mem.head _ | refine List.Mem.tail _ ?_)) (by rfl) (RVs.tmp (by rfl) RVs.nil)) (List.nil_sublist _) ?_
    exact FrR.mkE (cut_1 hb0p) hb0p
  · have hb0p := of_bne_false hb0
    refine CS.skip ?_
    refine thenC_n ?_
    refine CS.seq ?_
    refine CS.seq ?_
    refine CS.region ?_
    have hr := regErr_ok (of_bne_false hb0)
    obtain ⟨u, rfl⟩ : ∃ u : Nat, rw_ = (u : Int) := ⟨rw_.toNat, by omega⟩
    obtain ⟨s, rfl⟩ : ∃ s : Nat, rh = (s : Int) := ⟨rh.toNat, by omega⟩
    have hrc : ((u * s : Nat) : Int) = (u : Int) * (s : Int) := Int.natCast_mul ..
    first | (refine RS.q rfl (QO.loadB ty23 (by rfl) (by repeat (first | exact List.Mem.head _ | refine List.Mem.tail _ ?_)) (by rfl)) ?_) | (refine RS.q rfl (QO.loadA ty23 (by rfl) (by repeat (first | exact List.Mem.head _ | refine List.Mem.tail _ ?_)) (by rfl) (by rfl)) ?_) | (refine RS.q rfl (QO.loadOA ty23 (by rfl) (by assumption) (by rfl)) ?_)
    refine RS.q rfl (QO.fieldAddr fo26_0 (by rfl)) ?_
    first | (refine RS.q rfl (QO.loadB ty23 (by rfl) (by repeat (first | exact List.Mem.head _ | refine List.Mem.tail _ ?_)) (by rfl)) ?_) | (refine RS.q rfl (QO.loadA ty23 (by rfl) (by repeat (first | exact List.Mem.head _ | refine List.Mem.tail _ ?_)) (by rfl) (by rfl)) ?_) | (refine RS.q rfl (QO.loadOA ty23 (by rfl) (by assumption) (by rfl)) ?_)
    refine RS.call rfl (by rfl) ok17 (by rfl) (fun w ho => inside rx ry u s X Y a b _ (by omega) (by omega) (by omega) (by omega) (by omega) (by omega) (by omega) (by omega)) ?_
    rintro _ _ ⟨rfl, rfl⟩
    refine RS.q rfl (QO.not (by rfl)) ?_
    refine RS.nil ?_
    refine thenC_n ?_
    refine CS.cond (by rfl) (fun hb1 => ?_) (fun hb1 => ?_)
    · have hb1p := Eq.mp (Bool.not_eq_true' _) hb1
      refine CS.seq ?_
      refine CS.region ?_
      refine RS.q rfl (QO.build ty26 pl26 (by rfl)) ?_
      first | refine RS.storeB ty26 (by rfl) (by rfl) (by rfl) (by rfl) (by rfl) (by repeat (first | exact Upd.head | apply Upd.tail)) (by rfl) ?_ | refine RS.storeP ty26 (by rfl) (by rfl) (by rfl) (by rfl) (by rfl) (by repeat (first | exact Upd.head | apply Upd.tail)) (by rfl) ?_
      refine RS.q rfl (QO.assign) ?_
      refine RS.nil ?_
      refine thenC_n ?_
      refine CS.ret ?_
      refine thenC_r ?_
      refine retQ.mk (H' := []) (.inr rfl) (RVs.cellA ty26 (by rfl) (by repeat (first | exact List.Mem.head _ | refine List.Mem.tail _ ?_)) (by rfl) (RVs.tmp (by rfl) RVs.nil)) (List.nil_sublist _) ?_
      exact FrR.mkE (cut_2 (of_bne_false hb0) hb1p) (by decide)
    · have hb1p := Eq.mp (Bool.not_eq_false' _) hb1
      refine CS.skip ?_
      refine thenC_n ?_
      refine CS.cut (X := Nat × Nat) [8, 27, 28, 29, 30, 31, 32, 33, 34, 35] (fun z => [(8, .pointer (some ⟨z.1, 0, none⟩))]) (fun z => [⟨z.1, 26, [iv rx, iv ry, iv (u : Int), iv (s : Int), .slice (some ⟨z.2, 0, none⟩) (4 * (u * s)) (4 * (u * s))]⟩, ⟨z.2, 43, (List.replicate (4 * (u * s)) 0).map flt⟩, ⟨g4, 26, [iv 0, iv 0, iv 0, iv 0, .slice none 0 0]⟩, ⟨g2, 26, [iv X, iv Y, iv (a : Int), iv (b : Int), .slice A xs.length c]⟩]) (fun z => True) ?_ ?_
      · refine CS.draw 10 rfl (by kernel_rfl) (by kernel_rfl) ?_
        first | (refine RT.take (i := 0) rfl (by kernel_rfl) rfl (QO.loadB ty23 (by rfl) (by repeat (first | exact List.Mem.head _ | refine List.Mem.tail _ ?_)) (by rfl)) ?_) | (refine RT.take (i := 0) rfl (by kernel_rfl) rfl (QO.loadA ty23 (by rfl) (by repeat (first | exact List.Mem.head _ | refine List.Mem.tail _ ?_)) (by rfl) (by rfl)) ?_) | (refine RT.take (i := 0) rfl (by kernel_rfl) rfl (QO.loadOA ty23 (by rfl) (by assumption) (by rfl)) ?_)
        refine RT.take (i := 1) rfl (by kernel_rfl) rfl (QO.fieldAddr fo23_2 (by rfl)) ?_
        first | (refine RT.take (i := 2) rfl (by kernel_rfl) rfl (QO.load ty3 (by rfl) (by repeat (first | exact List.Mem.head _ | refine List.Mem.tail _ ?_)) (by rfl)) ?_) | (refine RT.take (i := 2) rfl (by kernel_rfl) rfl (QO.loadO ty3 (by rfl) (by assumption)) ?_) | (refine RT.take (i := 2) rfl (by kernel_rfl) rfl (QO.load ty3 (by rfl) (by repeat (first | exact List.Mem.head _ | refine List.Mem.tail _ ?_)) (by assumption)) ?_)
        first | (refine RT.take (i := 3) rfl (by kernel_rfl) rfl (QO.mul (by rfl) (by rfl) (by omega) (by omega)) ?_) | (refine RT.take (i := 3) rfl (by kernel_rfl) rfl (QO.ibin (by rfl) (by rfl) trivial) ?_)
        refine RT.take (i := 4) rfl (by kernel_rfl) rfl (QO.fieldAddr fo23_3 (by rfl)) ?_
        first | (refine RT.take (i := 5) rfl (by kernel_rfl) rfl (QO.load ty3 (by rfl) (by repeat (first | exact List.Mem.head _ | refine List.Mem.tail _ ?_)) (by rfl)) ?_) | (refine RT.take (i := 5) rfl (by kernel_rfl) rfl (QO.loadO ty3 (by rfl) (by assumption)) ?_) | (refine RT.take (i := 5) rfl (by kernel_rfl) rfl (QO.load ty3 (by rfl) (by repeat (first | exact List.Mem.head _ | refine List.Mem.tail _ ?_)) (by assumption)) ?_)
        first | (refine RT.takev (i := 6) rfl (by kernel_rfl) rfl (QO.mul (by rfl) (by rfl) (by omega) (by omega)) (congrArg iv (show 4 * (u : Int) * (s : Int) = ((4 * (u * s) : Nat) : Int) by omega)) ?_) | (refine RT.takev (i := 6) rfl (by kernel_rfl) rfl (QO.ibin (by rfl) (by rfl) trivial) (congrArg iv (show 4 * (u : Int) * (s : Int) = ((4 * (u * s) : Nat) : Int) by omega)) ?_)
        refine RT.two (i := 7) (j := 9) (by kernel_rfl) rfl rfl ?_ ?_
        · refine RS.make rfl Try.underlying24 ty43 (by rfl) (by rfl) (by omega) (by omega) (by omega) (by omega) ?_
          intro g34
          refine RS.nil ⟨(by repeat (first | exact List.Sublist.refl _ | exact List.nil_sublist _ | refine List.Sublist.cons_cons _ ?_ | refine List.Sublist.cons _ ?_ | exact Sbp.refl | exact Sbp.nil | refine Sbp.cons (by repeat (first | exact Rem.head | apply Rem.tail)) ?_ | exact Sbp.app | refine Sbp.skip ?_)), ?_⟩
          refine RT.take (i := 8) rfl (by kernel_rfl) rfl (QO.build ty26 pl26 (by rfl)) ?_
          refine RT.one (i := 9) (by kernel_rfl) rfl rfl ?_
          refine RS.alloc rfl ty26 ?_
          intro g8
          refine RS.nil ⟨(by repeat (first | exact List.Sublist.refl _ | exact List.nil_sublist _ | refine List.Sublist.cons_cons _ ?_ | refine List.Sublist.cons _ ?_ | exact Sbp.refl | exact Sbp.nil | refine Sbp.cons (by repeat (first | exact Rem.head | apply Rem.tail)) ?_ | exact Sbp.app | refine Sbp.skip ?_)), ?_⟩
          refine RT.tail (i := 10) (by kernel_rfl) rfl rfl ?_
          first | refine RS.storeB ty26 (by rfl) (by rfl) (by rfl) (by rfl) (by rfl) (by repeat (first | exact Upd.head | apply Upd.tail)) (by rfl) ?_ | refine RS.storeP ty26 (by rfl) (by rfl) (by rfl) (by rfl) (by rfl) (by repeat (first | exact Upd.head | apply Upd.tail)) (by rfl) ?_
          refine RS.nil ?_
          refine RT.done (by kernel_rfl) ?_
          refine cutQ_n (by intro t ht; repeat (first | with_reducible exact rfl | exact frame_puts ht (frame_mix ht) _ rfl | (refine frame_put rfl ht ?_) | (refine frame_puts ht ?_ _ rfl) | exact frame_mix ht | (refine frame_mix2 rfl ht ?_) | exact rfl)) ?_
          exact ⟨(g8, g34), trivial, (by repeat (first | exact kn_nil | refine kn_cons (by rfl) ?_)), (by rw [← repl_flt]; exact (by repeat (first | exact List.Sublist.refl _ | exact List.nil_sublist _ | refine List.Sublist.cons_cons _ ?_ | refine List.Sublist.cons _ ?_ | exact Sbp.refl | exact Sbp.nil | refine Sbp.cons (by repeat (first | exact Rem.head | apply Rem.tail)) ?_ | exact Sbp.app | refine Sbp.skip ?_)))⟩
        · refine RS.alloc rfl ty26 ?_
          intro g8
          refine RS.nil ⟨(by repeat (first | exact List.Sublist.refl _ | exact List.nil_sublist _ | refine List.Sublist.cons_cons _ ?_ | refine List.Sublist.cons _ ?_ | exact Sbp.refl | exact Sbp.nil | refine Sbp.cons (by repeat (first | exact Rem.head | apply Rem.tail)) ?_ | exact Sbp.app | refine Sbp.skip ?_)), ?_⟩
          refine RT.one (i := 7) (by kernel_rfl) rfl rfl ?_
          refine RS.make rfl Try.underlying24 ty43 (by rfl) (by rfl) (by omega) (by omega) (by omega) (by omega) ?_
          intro g34
          refine RS.nil ⟨(by repeat (first | exact List.Sublist.refl _ | exact List.nil_sublist _ | refine List.Sublist.cons_cons _ ?_ | refine List.Sublist.cons _ ?_ | exact Sbp.refl | exact Sbp.nil | refine Sbp.cons (by repeat (first | exact Rem.head | apply Rem.tail)) ?_ | exact Sbp.app | refine Sbp.skip ?_)), ?_⟩
          refine RT.take (i := 8) rfl (by kernel_rfl) rfl (QO.build ty26 pl26 (by rfl)) ?_
          refine RT.tail (i := 10) (by kernel_rfl) rfl rfl ?_
          first | refine RS.storeB ty26 (by rfl) (by rfl) (by rfl) (by rfl) (by rfl) (by repeat (first | exact Upd.head | apply Upd.tail)) (by rfl) ?_ | refine RS.storeP ty26 (by rfl) (by rfl) (by rfl) (by rfl) (by rfl) (by repeat (first | exact Upd.head | apply Upd.tail)) (by rfl) ?_
          refine RS.nil ?_
          refine RT.done (by kernel_rfl) ?_
          refine cutQ_n (by intro t ht; repeat (first | with_reducible exact rfl | exact frame_puts ht (frame_mix ht) _ rfl | (refine frame_put rfl ht ?_) | (refine frame_puts ht ?_ _ rfl) | exact frame_mix ht | (refine frame_mix2 rfl ht ?_) | exact rfl)) ?_
          exact ⟨(g8, g34), trivial, (by repeat (first | exact kn_nil | refine kn_cons (by rfl) ?_)), (by rw [← repl_flt]; exact (by repeat (first | exact List.Sublist.refl _ | exact List.nil_sublist _ | refine List.Sublist.cons_cons _ ?_ | refine List.Sublist.cons _ ?_ | exact Sbp.refl | exact Sbp.nil | refine Sbp.cons (by repeat (first | exact Rem.head | apply Rem.tail)) ?_ | exact Sbp.app | refine Sbp.skip ?_)))⟩
      · intro z gj hz
        obtain ⟨g, gm⟩ := z
        show CS _ _ _ _ _ (puts (mix _ _ _) [(8, .pointer (some ⟨g, 0, none⟩))]) ([⟨g, 26, [iv rx, iv ry, iv (u : Int), iv (s : Int), .slice (some ⟨gm, 0, none⟩) (4 * (u * s)) (4 * (u * s))]⟩, ⟨gm, 43, (List.replicate (4 * (u * s)) 0).map flt⟩, ⟨g4, 26, [iv 0, iv 0, iv 0, iv 0, .slice none 0 0]⟩, ⟨g2, 26, [iv X, iv Y, iv (a : Int), iv (b : Int), .slice A xs.length c]⟩])
        refine CS.seq ?_
        refine CS.region ?_
        first | (refine RS.q rfl (QO.loadB ty26 (by rfl) (by repeat (first | exact List.Mem.head _ | refine List.Mem.tail _ ?_)) (by rfl)) ?_) | (refine RS.q rfl (QO.loadA ty26 (by rfl) (by repeat (first | exact List.Mem.head _ | refine List.Mem.tail _ ?_)) (by rfl) (by rfl)) ?_) | (refine RS.q rfl (QO.loadOA ty26 (by rfl) (by assumption) (by rfl)) ?_)
        first | (refine RS.q rfl (QO.loadB ty26 (by rfl) (by repeat (first | exact List.Mem.head _ | refine List.Mem.tail _ ?_)) (by rfl)) ?_) | (refine RS.q rfl (QO.loadA ty26 (by rfl) (by repeat (first | exact List.Mem.head _ | refine List.Mem.tail _ ?_)) (by rfl) (by rfl)) ?_) | (refine RS.q rfl (QO.loadOA ty26 (by rfl) (by assumption) (by rfl)) ?_)
        refine RS.callH (⟨gm, 43, (List.replicate (4 * (u * s)) 0).map flt⟩ :: ⟨g, 26, [iv rx, iv ry, iv (u : Int), iv (s : Int), .slice (some ⟨gm, 0, none⟩) (4 * (u * s)) (4 * (u * s))]⟩ :: ⟨g4, 26, [iv 0, iv 0, iv 0, iv 0, .slice none 0 0]⟩ :: []) rfl (by rfl) ok19 (by rfl) (by repeat (first | exact List.Sublist.refl _ | exact List.nil_sublist _ | refine List.Sublist.cons_cons _ ?_ | refine List.Sublist.cons _ ?_ | exact Sbp.refl | exact Sbp.nil | refine Sbp.cons (by repeat (first | exact Rem.head | apply Rem.tail)) ?_ | exact Sbp.app | refine Sbp.skip ?_)) (fun w ho => copyInto rx ry X Y u s a b gm _ _ _ c A _ xs _ _ List.length_replicate rfl rfl hA hN (by omega) (by omega) (by omega) (by omega) hX hY ha hb) ?_
        rintro _ _ ⟨rfl, rfl⟩
        refine RS.nil ?_
        refine thenC_n ?_
        refine CS.seq ?_
        refine CS.region ?_
        first | (refine RS.q rfl (QO.loadB ty26 (by rfl) (by repeat (first | exact List.Mem.head _ | refine List.Mem.tail _ ?_)) (by rfl)) ?_) | (refine RS.q rfl (QO.loadA ty26 (by rfl) (by repeat (first | exact List.Mem.head _ | refine List.Mem.tail _ ?_)) (by rfl) (by rfl)) ?_) | (refine RS.q rfl (QO.loadOA ty26 (by rfl) (by assumption) (by rfl)) ?_)
        first | refine RS.storeB ty26 (by rfl) (by rfl) (by rfl) (by rfl) (by rfl) (by repeat (first | exact Upd.head | apply Upd.tail)) (by rfl) ?_ | refine RS.storeP ty26 (by rfl) (by rfl) (by rfl) (by rfl) (by rfl) (by repeat (first | exact Upd.head | apply Upd.tail)) (by rfl) ?_
        refine RS.q rfl (QO.assign) ?_
        refine RS.nil ?_
        refine thenC_n ?_
        refine CS.ret ?_
        refine retQ.mk (H' := [⟨gm, 43, (cutV xs X Y a b rx ry u s).map flt⟩]) (.inr rfl) (RVs.cellA ty26 (by rfl) (by repeat (first | exact List.Mem.head _ | refine List.Mem.tail _ ?_)) (by rfl) (RVs.tmp (by rfl) RVs.nil)) (by rw [show cutV xs X Y a b rx ry u s = overV (List.replicate (4 * (u * s)) 0) xs rx ry u s X Y a b from (overV_cut (insB_T hb1p).1 (insB_T hb1p).2.1 (by have := insB_T hb1p; omega) (by have := insB_T hb1p; omega)).symm]; exact (by repeat (first | exact List.Sublist.refl _ | exact List.nil_sublist _ | refine List.Sublist.cons_cons _ ?_ | refine List.Sublist.cons _ ?_ | exact Sbp.refl | exact Sbp.nil | refine Sbp.cons (by repeat (first | exact Rem.head | apply Rem.tail)) ?_ | exact Sbp.app | refine Sbp.skip ?_))) ?_
        exact FrR.mk0 (madeV_len ..) (by unfold maxLen; omega) (cut_3 (of_bne_false hb0) hb1p)

def pstE (X Y a b X2 Y2 a2 b2 : Int) : Int := if cmB X Y a b X2 Y2 a2 b2 then 0 else 5
def pstV (xs zs : List Nat) (X Y : Int) (a b : Nat) (X2 Y2 : Int) (a2 b2 : Nat) : List Nat := madeV (pasteF xs zs X Y a b X2 Y2 a2 b2) X Y a (4 * (a * b))
/-- are two frames the same -/
def sameB (x y wi he x' y' wi' he' : Int) (xs xs' : List Nat) : Bool := decide ([x, y, wi, he] = [x', y', wi', he'] ∧ xs.map cl = xs'.map cl)

end Go.Proofs.Ytdfbeigjinhgiaa

namespace Go.Proofs.Ytdfbeigjinhgiaa
open Go

/-- a frame as it stands in a list -/
structure FrS where
  x : Int
  y : Int
  w : Int
  h : Int
  n : Nat
  c : Nat
  A : Option Addr
  zs : List Nat
def FrS.cells (f : FrS) : List Value := [iv f.x, iv f.y, iv f.w, iv f.h, .slice f.A f.n f.c]
def FsL (W : World) (A : Option Addr) (fs : List FrS) : Prop := 0 < fs.length → ∃ b o, A = some ⟨b, o, none⟩ ∧ ∀ (i : Nat) (f : FrS), fs[i]? = some f → (∀ j v, f.cells[j]? = some v → W.cell? ((⟨b, o + i * 5, none⟩ : Addr).add j) = some v) ∧ FS W f.A f.zs ∧ f.zs.length = f.n ∧ f.n ≤ f.c ∧ f.c ≤ maxLen
theorem FsL.own {W w : World} {H : HL} {A : Option Addr} {fs : List FrS} (h : FsL W A fs) (ho : Own W w H) : FsL w A fs := fun hn => by
  obtain ⟨b, o, h1, h2⟩ := h hn
  exact ⟨b, o, h1, fun i f hf => ⟨fun j v hj => ho.old ((h2 i f hf).1 j v hj), (h2 i f hf).2.1.own ho, (h2 i f hf).2.2⟩⟩
/-- what is covered, and with what -/
structure JS where
  cov : Nat → Bool
  V : Nat → Nat
def js0 : JS := ⟨fun _ => false, fun _ => 0⟩
def jIn (X Y : Int) (a : Nat) (f : FrS) (k : Nat) : Bool := atB (X + ((k % a : Nat) : Int)) (Y + ((k / a : Nat) : Int)) f.x f.y f.w f.h
def pxF (X Y : Int) (a : Nat) (f : FrS) (i : Nat) : Nat := pixF f.zs f.x f.y f.w.toNat f.h.toNat (X + ((i / 4 % a : Nat) : Int)) (Y + ((i / 4 / a : Nat) : Int)) (i % 4)
def jStep (X Y : Int) (a : Nat) (f : FrS) (s : JS) : JS := ⟨fun k => s.cov k || jIn X Y a f k, fun i => if jIn X Y a f (i / 4) then pxF X Y a f i else s.V i⟩
def jHit (X Y : Int) (a b : Nat) (f : FrS) (s : JS) : Bool := (List.range (a * b)).any fun k => jIn X Y a f k && s.cov k
def jE (X Y : Int) (a b : Nat) : List FrS → JS → Int
  | [], s => if cntC s.cov (a * b) < a * b then 10 else 0
  | f :: l, s => if frErr f.x f.y f.w f.h f.n ≠ 0 then frErr f.x f.y f.w f.h f.n else if insB f.x f.y f.w f.h X Y a b = false then 5 else if jHit X Y a b f s then 7 else jE X Y a b l (jStep X Y a f s)
def jEnd (X Y : Int) (a : Nat) : List FrS → JS → JS
  | [], s => s
  | f :: l, s => jEnd X Y a l (jStep X Y a f s)
def jVals (s : JS) (N : Nat) : List Nat := (List.range (4 * N)).map fun i => cl (s.V i)
/-- what the program has so far -/
def outV (s : JS) (N : Nat) : List Nat := (List.range (4 * N)).map fun i => if s.cov (i / 4) then cl (s.V i) else 0
def jErr (X Y w h : Int) (fs : List FrS) : Int := if regErr X Y w h ≠ 0 then regErr X Y w h else jE X Y w.toNat h.toNat fs js0
theorem outV_len (s : JS) (N : Nat) : (outV s N).length = 4 * N := by simp [outV]
theorem jVals_len (s : JS) (N : Nat) : (jVals s N).length = 4 * N := by simp [jVals]
theorem outV_zero (N : Nat) : outV js0 N = List.replicate (4 * N) 0 := by
  unfold outV js0
  apply List.ext_getElem
  · simp
  · intro i h1 h2; simp
theorem outV_all {s : JS} {N : Nat} (h : ∀ k, k < N → s.cov k = true) : outV s N = jVals s N := by
  unfold outV jVals
  refine List.map_congr_left fun i hi => ?_
  have := List.mem_range.1 hi
  rw [h (i / 4) (by omega)]; rfl
theorem overV_out {X Y : Int} {a b : Nat} {f : FrS} {s : JS} {w h : Nat} (hw : f.w = w) (hh : f.h = h) : overV (outV s (a * b)) f.zs X Y a b f.x f.y w h = outV (jStep X Y a f s) (a * b) := by
  unfold overV mixL
  conv => rhs; unfold outV
  refine List.map_congr_left fun i hi => ?_
  have hi := List.mem_range.1 hi
  have e1 : atB (X + ((i / 4 % a : Nat) : Int)) (Y + ((i / 4 / a : Nat) : Int)) f.x f.y (w : Int) (h : Int) = jIn X Y a f (i / 4) := by rw [← hw, ← hh]; rfl
  simp only [e1]
  simp only [jStep]
  rcases Bool.eq_false_or_eq_true (jIn X Y a f (i / 4)) with hc | hc
  rotate_left
  · simp only [hc, Bool.false_eq_true, if_false, Bool.or_false]
    unfold outV
    rw [List.getD, List.getElem?_map, List.getElem?_range hi]; rfl
  · simp only [hc, if_true, Bool.or_true]
    unfold madeF pxF
    rw [hw, hh]; rfl

/-! ### pixels, one after the other -/
def vsP (a p w q j i k : Nat) : Bool := decide ((q ≤ k / a ∧ k / a < q + j ∧ p ≤ k % a ∧ k % a < p + w) ∨ (k / a = q + j ∧ p ≤ k % a ∧ k % a < p + i))
theorem vsP_zero (a p w q k : Nat) : vsP a p w q 0 0 k = false := by
  unfold vsP; apply decide_eq_false; omega
theorem vsP_row (a p w q j k : Nat) : vsP a p w q j w k = vsP a p w q (j + 1) 0 k := by
  unfold vsP
  rw [Bool.eq_iff_iff, decide_eq_true_eq, decide_eq_true_eq]
  omega
theorem pl_of {a r x : Nat} (hx : x < a) : (a * r + x) / a = r ∧ (a * r + x) % a = x := by
  have h0 : 0 < a := by omega
  rw [Nat.mul_add_div h0, Nat.mul_add_mod, Nat.mod_eq_of_lt hx, Nat.div_eq_of_lt hx]
  omega
theorem vsP_step {a p w q j i : Nat} (hp : p + w ≤ a) (hi : i < w) (k : Nat) : vsP a p w q j (i + 1) k = (vsP a p w q j i k || k == a * (q + j) + (p + i)) := by
  have h0 : 0 < a := by omega
  have h1 := pl_of (a := a) (r := q + j) (x := p + i) (by omega)
  unfold vsP
  rw [Bool.eq_iff_iff, Bool.or_eq_true, decide_eq_true_eq, decide_eq_true_eq, beq_iff_eq]
  have hk := Nat.div_add_mod k a
  constructor
  · rintro (h | ⟨h2, h3, h4⟩)
    · exact .inl (.inl h)
    · by_cases h5 : k % a = p + i
      · right
        rw [h2, h5] at hk
        exact hk.symm
      · exact .inl (.inr ⟨h2, h3, by omega⟩)
  · rintro ((h | ⟨h2, h3, h4⟩) | rfl)
    · exact .inl h
    · exact .inr ⟨h2, h3, by omega⟩
    · rw [h1.1, h1.2]
      exact .inr ⟨rfl, by omega, by omega⟩
theorem vsP_new {a p w q j i : Nat} (hp : p + w ≤ a) (hi : i < w) : vsP a p w q j i (a * (q + j) + (p + i)) = false := by
  have h1 := pl_of (a := a) (r := q + j) (x := p + i) (by omega)
  unfold vsP
  rw [h1.1, h1.2]
  apply decide_eq_false; omega
theorem vsP_all {X Y : Int} {a p w q h : Nat} {f : FrS} (hx : f.x = X + p) (hy : f.y = Y + q) (hw : f.w = w) (hh : f.h = h) (k : Nat) : vsP a p w q h 0 k = jIn X Y a f k := by
  unfold vsP jIn atB
  rw [Bool.eq_iff_iff, decide_eq_true_eq, decide_eq_true_eq, hx, hy, hw, hh]
  generalize k / a = r
  generalize k % a = c
  omega
theorem vsP_lt {a b p w q h j i k : Nat} (hp : p + w ≤ a) (hq : q + h ≤ b) (hj : j ≤ h) (hi : i ≤ w) (hji : j = h → i = 0) (hv : vsP a p w q j i k = true) : k < a * b ∧ vsP a p w q h 0 k = true := by
  unfold vsP at hv ⊢
  rw [decide_eq_true_eq] at hv ⊢
  have hr : k / a < q + h := by
    rcases hv with h1 | h1
    · omega
    · have : j ≠ h := fun e => by have := hji e; omega
      omega
  have h0 : 0 < a := by omega
  refine ⟨?_, ?_⟩
  · have hk := Nat.div_add_mod k a
    have hm := Nat.mod_lt k h0
    have h2 : a * (k / a + 1) ≤ a * b := Nat.mul_le_mul_left a (by omega)
    rw [Nat.mul_add] at h2
    omega
  · left
    omega
/-- the whole of a step, seen from its pixels -/
def jMid (X Y : Int) (a : Nat) (f : FrS) (s : JS) (p w q j i : Nat) : JS := ⟨fun k => s.cov k || vsP a p w q j i k, fun k => if vsP a p w q j i (k / 4) then pxF X Y a f k else s.V k⟩
theorem jMid_zero {X Y : Int} {a : Nat} {f : FrS} {s : JS} {p w q : Nat} : jMid X Y a f s p w q 0 0 = s := by
  unfold jMid
  simp only [vsP_zero, Bool.or_false]
  rfl
theorem jMid_row {X Y : Int} {a : Nat} {f : FrS} {s : JS} {p w q j : Nat} : jMid X Y a f s p w q j w = jMid X Y a f s p w q (j + 1) 0 := by
  unfold jMid
  simp only [vsP_row]
theorem jMid_all {X Y : Int} {a p w q h : Nat} {f : FrS} {s : JS} (hx : f.x = X + p) (hy : f.y = Y + q) (hw : f.w = w) (hh : f.h = h) : jMid X Y a f s p w q h 0 = jStep X Y a f s := by
  unfold jMid jStep
  simp only [vsP_all hx hy hw hh]
/-- where a frame stands in a region -/
theorem ins_at {x y w h X Y : Int} {a b : Nat} (hr : regErr x y w h = 0) (hi : insB x y w h X Y a b = true) : ∃ p q u v : Nat, x = X + p ∧ y = Y + q ∧ w = u ∧ h = v ∧ p + u ≤ a ∧ q + v ≤ b ∧ 1 ≤ u ∧ 1 ≤ v := by
  have h1 := regErr_ok hr
  have h2 := of_decide_eq_true hi
  exact ⟨(x - X).toNat, (y - Y).toNat, w.toNat, h.toNat, by omega, by omega, by omega, by omega, by omega, by omega, by omega, by omega⟩
/-- a pixel that is there already -/
theorem jHit_of {X Y : Int} {a b p w q h j i : Nat} {f : FrS} {s : JS} (hx : f.x = X + p) (hy : f.y = Y + q) (hw : f.w = w) (hh : f.h = h) (hp : p + w ≤ a) (hq : q + h ≤ b) (hj : j < h) (hi : i < w)
    (hc : (s.cov (a * (q + j) + (p + i)) || vsP a p w q j i (a * (q + j) + (p + i))) = true) : jHit X Y a b f s = true := by
  rw [vsP_new hp hi, Bool.or_false] at hc
  have hv : vsP a p w q j (i + 1) (a * (q + j) + (p + i)) = true := by rw [vsP_step hp hi]; simp
  obtain ⟨h1, h2⟩ := vsP_lt hp hq (by omega) (by omega) (fun e => by omega) hv
  unfold jHit
  rw [List.any_eq_true]
  refine ⟨_, List.mem_range.2 h1, ?_⟩
  rw [← vsP_all hx hy hw hh, h2, hc]; rfl
def jFree (a p w q j i : Nat) (s : JS) : Prop := ∀ k, vsP a p w q j i k = true → s.cov k = false
theorem jFree_zero (a p w q : Nat) (s : JS) : jFree a p w q 0 0 s := fun k h => by rw [vsP_zero] at h; cases h
theorem jFree_row {a p w q j : Nat} {s : JS} (h : jFree a p w q j w s) : jFree a p w q (j + 1) 0 s := fun k hk => h k (by rw [vsP_row]; exact hk)
theorem jFree_step {a p w q j i : Nat} {s : JS} (hp : p + w ≤ a) (hi : i < w) (h : jFree a p w q j i s) (hc : (s.cov (a * (q + j) + (p + i)) || vsP a p w q j i (a * (q + j) + (p + i))) = false) : jFree a p w q j (i + 1) s := fun k hk => by
  rw [vsP_step hp hi, Bool.or_eq_true, beq_iff_eq] at hk
  rcases hk with hk | rfl
  · exact h k hk
  · exact (Bool.or_eq_false_iff.1 hc).1
theorem jHit_no {X Y : Int} {a b p w q h : Nat} {f : FrS} {s : JS} (hx : f.x = X + p) (hy : f.y = Y + q) (hw : f.w = w) (hh : f.h = h) (hf : jFree a p w q h 0 s) : jHit X Y a b f s = false := by
  unfold jHit
  rw [List.any_eq_false]
  intro k _
  rw [← vsP_all hx hy hw hh]
  cases hv : vsP a p w q h 0 k
  · simp
  · rw [hf k hv]; simp
theorem cnt_step {X Y : Int} {a b p w q h j i : Nat} {f : FrS} {s : JS} (hp : p + w ≤ a) (hq : q + h ≤ b) (hj : j < h) (hi : i < w)
    (hc : (s.cov (a * (q + j) + (p + i)) || vsP a p w q j i (a * (q + j) + (p + i))) = false) : cntC (jMid X Y a f s p w q j (i + 1)).cov (a * b) = cntC (jMid X Y a f s p w q j i).cov (a * b) + 1 := by
  have hv : vsP a p w q j (i + 1) (a * (q + j) + (p + i)) = true := by rw [vsP_step hp hi]; simp
  obtain ⟨h1, h2⟩ := vsP_lt hp hq (by omega) (by omega) (fun e => by omega) hv
  rw [cntC_add (c := (jMid X Y a f s p w q j i).cov) (k0 := a * (q + j) + (p + i)) hc (fun k => by
    simp only [jMid]; rw [vsP_step hp hi, Bool.or_assoc]), if_pos h1]
theorem jE_cons {X Y : Int} {a b : Nat} {f : FrS} {l : List FrS} {s : JS} (h1 : frErr f.x f.y f.w f.h f.n = 0) (h2 : insB f.x f.y f.w f.h X Y a b = true) (h3 : jHit X Y a b f s = false) : jE X Y a b (f :: l) s = jE X Y a b l (jStep X Y a f s) := by
  show (if _ then _ else _) = _
  rw [if_neg (by rw [h1]; decide), if_neg (by rw [h2]; decide), h3]; rfl
theorem jE_bad {X Y : Int} {a b : Nat} {f : FrS} {l : List FrS} {s : JS} (h1 : frErr f.x f.y f.w f.h f.n ≠ 0) : jE X Y a b (f :: l) s = frErr f.x f.y f.w f.h f.n := if_pos h1
theorem jE_out {X Y : Int} {a b : Nat} {f : FrS} {l : List FrS} {s : JS} (h1 : frErr f.x f.y f.w f.h f.n = 0) (h2 : insB f.x f.y f.w f.h X Y a b = false) : jE X Y a b (f :: l) s = 5 := by
  show (if _ then _ else _) = _
  rw [if_neg (by rw [h1]; decide), if_pos h2]
theorem jE_hit {X Y : Int} {a b : Nat} {f : FrS} {l : List FrS} {s : JS} (h1 : frErr f.x f.y f.w f.h f.n = 0) (h2 : insB f.x f.y f.w f.h X Y a b = true) (h3 : jHit X Y a b f s = true) : jE X Y a b (f :: l) s = 7 := by
  show (if _ then _ else _) = _
  rw [if_neg (by rw [h1]; decide), if_neg (by rw [h2]; decide), h3]; rfl
theorem jEnd_cons {X Y : Int} {a : Nat} {f : FrS} {l : List FrS} {s : JS} : jEnd X Y a (f :: l) s = jEnd X Y a l (jStep X Y a f s) := rfl
theorem drop_cons {α : Type} {l : List α} {k : Nat} {f : α} (h : l[k]? = some f) : l.drop k = f :: l.drop (k + 1) := by
  have hk := (List.getElem?_eq_some_iff.1 h).1
  rw [List.drop_eq_getElem_cons hk, (List.getElem?_eq_some_iff.1 h).2]
theorem drop_end {α : Type} {l : List α} {k : Nat} (h : l.length ≤ k) : l.drop k = [] := List.drop_eq_nil_of_le h

/-! ### frames that have each pixel at most once -/
def jN (X Y : Int) (a : Nat) (fs : List FrS) (k : Nat) : Nat := fs.countP fun f => jIn X Y a f k
theorem jE_small {X Y : Int} {a b : Nat} : ∀ (fs : List FrS) (s : JS), (∀ f ∈ fs, frErr f.x f.y f.w f.h f.n = 0 ∧ insB f.x f.y f.w f.h X Y a b = true) → (∀ k, k < a * b → jN X Y a fs k + (if s.cov k then 1 else 0) ≤ 1) →
    jE X Y a b fs s = if cntC (jEnd X Y a fs s).cov (a * b) < a * b then 10 else 0
  | [], _, _, _ => rfl
  | f :: l, s, hok, hc => by
    obtain ⟨h1, h2⟩ := hok f (by simp)
    have h3 : jHit X Y a b f s = false := by
      unfold jHit
      rw [List.any_eq_false]
      intro k hk
      have := hc k (List.mem_range.1 hk)
      unfold jN at this
      rw [List.countP_cons] at this
      cases q1 : jIn X Y a f k
      · simp
      · cases q2 : s.cov k
        · simp
        · rw [q1, q2] at this
          simp only [if_true] at this
          omega
    rw [jE_cons h1 h2 h3, jE_small l _ (fun g hg => hok g (by simp [hg])) (fun k hk => ?_)]
    · rfl
    · have := hc k hk
      unfold jN at this ⊢
      rw [List.countP_cons] at this
      simp only [jStep]
      rcases Bool.eq_false_or_eq_true (jIn X Y a f k) with q1 | q1
      · simp only [q1, if_true, Bool.or_true] at this ⊢
        omega
      · simp only [q1, Bool.false_eq_true, if_false, Bool.or_false, Nat.add_zero] at this ⊢
        exact this
theorem jEnd_cov {X Y : Int} {a : Nat} : ∀ (fs : List FrS) (s : JS) (k : Nat), (jEnd X Y a fs s).cov k = (s.cov k || fs.any fun f => jIn X Y a f k)
  | [], s, k => by simp [jEnd]
  | f :: l, s, k => by
    rw [jEnd_cons, jEnd_cov l]
    simp only [jStep, List.any_cons, Bool.or_assoc]
theorem jEnd_val {X Y : Int} {a : Nat} {v i : Nat} : ∀ (fs : List FrS) (s : JS), (∀ f ∈ fs, jIn X Y a f (i / 4) = true → pxF X Y a f i = v) → (fs.any (fun f => jIn X Y a f (i / 4)) = true ∨ s.V i = v) → (jEnd X Y a fs s).V i = v
  | [], s, _, h => by
    rcases h with h | h
    · simp at h
    · exact h
  | f :: l, s, hv, h => by
    rw [jEnd_cons]
    refine jEnd_val l _ (fun g hg => hv g (by simp [hg])) ?_
    simp only [jStep]
    cases q : jIn X Y a f (i / 4)
    · simp only [Bool.false_eq_true, if_false]
      rcases h with h | h
      · rw [List.any_cons, q, Bool.false_or] at h
        exact .inl h
      · exact .inr h
    · simp only [if_true]
      exact .inr (hv f (by simp) q)
theorem any_of_jN {X Y : Int} {a k : Nat} {fs : List FrS} (h : 0 < jN X Y a fs k) : fs.any (fun f => jIn X Y a f k) = true := by
  obtain ⟨f, h1, h2⟩ := List.countP_pos_iff.1 h
  exact List.any_eq_true.2 ⟨f, h1, h2⟩
/-- frames that have each pixel once, joined -/
theorem jE_once {X Y : Int} {a b : Nat} {fs : List FrS} (hok : ∀ f ∈ fs, frErr f.x f.y f.w f.h f.n = 0 ∧ insB f.x f.y f.w f.h X Y a b = true) (hc : ∀ k, k < a * b → jN X Y a fs k = 1) : jE X Y a b fs js0 = 0 := by
  rw [jE_small fs js0 hok (fun k hk => by rw [hc k hk]; simp [js0]), if_neg]
  rw [cntC_all.2 (fun k hk => ?_)]
  · omega
  · rw [jEnd_cov, any_of_jN (by rw [hc k hk]; omega), Bool.or_true]
/-- .. and one left out -/
theorem jE_less {X Y : Int} {a b k0 : Nat} {fs : List FrS} (hok : ∀ f ∈ fs, frErr f.x f.y f.w f.h f.n = 0 ∧ insB f.x f.y f.w f.h X Y a b = true) (hc : ∀ k, k < a * b → jN X Y a fs k ≤ 1) (hk0 : k0 < a * b) (h0 : jN X Y a fs k0 = 0) : jE X Y a b fs js0 = 10 := by
  rw [jE_small fs js0 hok (fun k hk => by have := hc k hk; simp [js0]; omega), if_pos]
  have h1 := cntC_le (jEnd X Y a fs js0).cov (a * b)
  rcases Nat.lt_or_ge (cntC (jEnd X Y a fs js0).cov (a * b)) (a * b) with h2 | h2
  · exact h2
  · have := cntC_all.1 (Nat.le_antisymm h1 h2) k0 hk0
    rw [jEnd_cov] at this
    have h3 : fs.any (fun f => jIn X Y a f k0) = false := by
      rw [List.any_eq_false]
      exact fun f hf => List.countP_eq_zero.1 h0 f hf
    rw [h3] at this
    simp [js0] at this
end Go.Proofs.Ytdfbeigjinhgiaa

namespace Go.Proofs.Ytdfbeigjinhgiaa
open Go Go.Proofs Go.RowKit

theorem ty4 : tyChk Try.prog 4 = some ([.bool false], false, 1) := by kernel_rfl

/-- what is covered, in cells -/
def covC (s : JS) (N : Nat) : List Value := (List.range N).map fun k => Value.bool (s.cov k)
theorem covC_zero (N : Nat) : covC js0 N = List.replicate N (.bool false) := by
  unfold covC js0
  apply List.ext_getElem
  · simp
  · intro i h1 h2; simp
theorem covC_len (s : JS) (N : Nat) : (covC s N).length = N := by simp [covC]
theorem covC_at {s : JS} {N k : Nat} (h : k < N) : (covC s N)[k]? = some (.bool (s.cov k)) := by
  unfold covC
  rw [List.getElem?_map, List.getElem?_range h]; rfl
theorem covC_set {s s' : JS} {N k : Nat} (hs : ∀ i, s'.cov i = (s.cov i || i == k)) : (covC s N).set k (.bool true) = covC s' N := by
  unfold covC
  apply List.ext_getElem
  · simp
  · intro i h1 h2
    simp only [List.getElem_set, List.getElem_map, List.getElem_range, hs]
    by_cases e : k = i
    · subst e; simp
    · rw [if_neg e]
      have : (i == k) = false := by simpa using fun h : i = k => e h.symm
      rw [this, Bool.or_false]
theorem jMid_cov {X Y : Int} {a p u q j i : Nat} {f : FrS} {s : JS} (hp : p + u ≤ a) (hi : i < u) (k : Nat) : (jMid X Y a f s p u q j (i + 1)).cov k = ((jMid X Y a f s p u q j i).cov k || k == a * (q + j) + (p + i)) := by
  simp only [jMid]; rw [vsP_step hp hi, Bool.or_assoc]
theorem quo4 (o : Nat) : (((4 * o : Nat) : Int)).tdiv 4 = (o : Int) := by
  rw [Int.natCast_mul]
  exact Int.mul_tdiv_cancel_left _ (by decide)
theorem jE_end10 {X Y : Int} {a b k : Nat} {fs : List FrS} {s : JS} (hk : fs.length ≤ k) (h : cntC s.cov (a * b) < a * b) : jE X Y a b (fs.drop k) s = 10 := by rw [drop_end hk]; exact if_pos h
theorem jE_end0 {X Y : Int} {a b k : Nat} {fs : List FrS} {s : JS} (hk : fs.length ≤ k) (h : ¬ cntC s.cov (a * b) < a * b) : jE X Y a b (fs.drop k) s = 0 := by rw [drop_end hk]; exact if_neg h
theorem jEnd_end {X Y : Int} {a k : Nat} {fs : List FrS} {s : JS} (hk : fs.length ≤ k) : jEnd X Y a (fs.drop k) s = s := by rw [drop_end hk]; rfl
theorem out_end {X Y : Int} {a b k : Nat} {fs : List FrS} {s : JS} (hV : jEnd X Y a (fs.drop k) s = jEnd X Y a fs js0) (hk : fs.length ≤ k) (h : ¬ cntC s.cov (a * b) < a * b) : outV s (a * b) = jVals (jEnd X Y a fs js0) (a * b) := by
  rw [← hV, jEnd_end hk]
  have h1 := cntC_le s.cov (a * b)
  exact outV_all (cntC_all.1 (by omega))
theorem cntJ {X Y : Int} {a b : Nat} {m m' : JS} (h : m = m') : iv ((cntC m.cov (a * b) : Nat) : Int) = iv ((cntC m'.cov (a * b) : Nat) : Int) := by rw [h]
theorem cnt0 (N : Nat) : iv 0 = iv ((cntC js0.cov N : Nat) : Int) := by
  have := cntC_zero N
  show iv 0 = iv ((cntC (fun _ => false) N : Nat) : Int)
  rw [this]; rfl
theorem copyJ (X Y : Int) (a b g n c u v : Nat) (f : FrS) (s : JS) (K : HL) (W : World) (hn : n = 4 * (a * b)) (hzl : f.zs.length = f.n) (hFS : FS W f.A f.zs) (hn2 : (f.n : Int) = 4 * f.w * f.h) (hw : f.w = u) (hh : f.h = v) (hX : -1048576 ≤ X ∧ X ≤ 1048576) (hY : -1048576 ≤ Y ∧ Y ≤ 1048576) (ha : 1 ≤ a ∧ a ≤ 256) (hb : 1 ≤ b ∧ b ≤ 256) (hX2 : -1048576 ≤ f.x ∧ f.x ≤ 1048576) (hY2 : -1048576 ≤ f.y ∧ f.y ≤ 1048576) (ha2 : 1 ≤ u ∧ u ≤ 256) (hb2 : 1 ≤ v ∧ v ≤ 256) :
    FnH Try.prog 19 #[.agg #[iv X, iv Y, iv (a : Int), iv (b : Int), .slice (some ⟨g, 0, none⟩) n c], .agg #[iv f.x, iv f.y, iv f.w, iv f.h, .slice f.A f.n f.c]] W (⟨g, 43, (outV s (a * b)).map flt⟩ :: K) (fun v H => v = .tuple #[] ∧ H = ⟨g, 43, (outV (jStep X Y a f s) (a * b)).map flt⟩ :: K) := by
  have hn3 : f.n = 4 * (u * v) := by
    rw [hw, hh, Int.mul_assoc, ← Int.natCast_mul] at hn2
    omega
  have h := copyInto X Y f.x f.y a b u v g n c f.n f.c f.A (outV s (a * b)) f.zs K W (outV_len ..) hn hzl hFS hn3 hX hY ha hb hX2 hY2 ha2 hb2
  rw [overV_out hw hh, ← hw, ← hh] at h
  exact h

set_option maxHeartbeats 16000000 in
set_option maxRecDepth 100000 in
theorem joinBad (X Y w_ h_ : Int) (A : Option Addr) (c : Nat) (fs : List FrS) (W : World) (hA : FsL W A fs) (hm : fs.length ≤ maxLen) (hr : regErr X Y w_ h_ ≠ 0) : Fn_ Try.prog 6 #[.agg #[iv X, iv Y, iv w_, iv h_], .slice A fs.length c] W (fun v H => FrR (jErr X Y w_ h_ fs) X Y w_ h_ (jVals (jEnd X Y w_.toNat fs js0) (w_.toNat * h_.toNat)) v H) := by
  refine Fn_.intro Try.func6 rfl rfl (by rfl) ?_
  refine CS.seq ?_
  refine CS.region ?_
  refine RS.box rfl (by rfl) (by rfl) ?_
  intro g2
  refine RS.alloc rfl ty26 ?_
  intro g4
  refine RS.q rfl (QO.assign) ?_
  refine RS.nil ?_
  refine thenC_n ?_
  refine CS.seq ?_
  refine CS.seq ?_
  refine CS.region ?_
  first | (refine RS.q rfl (QO.loadB ty23 (by rfl) (by repeat (first | exact List.Mem.head _ | refine List.Mem.tail _ ?_)) (by rfl)) ?_) | (refine RS.q rfl (QO.loadA ty23 (by rfl) (by repeat (first | exact List.Mem.head _ | refine List.Mem.tail _ ?_)) (by rfl) (by rfl)) ?_) | (refine RS.q rfl (QO.loadOA ty23 (by rfl) (by assumption) (by rfl)) ?_)
  refine RS.call rfl (by rfl) ok15 (by rfl) (fun w ho => checkRegion _ _ _ _ _) ?_
  rintro _ _ ⟨rfl, rfl⟩
  refine RS.q rfl (QO.assign) ?_
  refine RS.nil ?_
  refine thenC_n ?_
  refine CS.seq ?_
  refine CS.region ?_
  refine RS.q rfl (QO.move) ?_
  refine RS.q rfl (QO.neq (by rfl) (by rfl)) ?_
  refine RS.nil ?_
  refine thenC_n ?_
  refine CS.condT (by rfl) (bne_iff_ne.2 hr) ?_
  refine CS.seq ?_
  refine CS.region ?_
  refine RS.q rfl (QO.build ty26 pl26 (by rfl)) ?_
  refine RS.q rfl (QO.move) ?_
  first | refine RS.storeB ty26 (by rfl) (by rfl) (by rfl) (by rfl) (by rfl) (by repeat (first | exact Upd.head | apply Upd.tail | exact Upd.app _ Upd.head)) (by rfl) ?_ | refine RS.storeP ty26 (by rfl) (by rfl) (by rfl) (by rfl) (by rfl) (by repeat (first | exact Upd.head | apply Upd.tail | exact Upd.app _ Upd.head)) (by rfl) ?_
  refine RS.q rfl (QO.assign) ?_
  refine RS.nil ?_
  refine thenC_n ?_
  refine CS.ret ?_
  refine thenC_r ?_
  refine retQ.mk (H' := []) (.inr rfl) (RVs.cellA ty26 (by rfl) (by repeat (first | exact List.Mem.head _ | refine List.Mem.tail _ ?_)) (by rfl) (RVs.tmp (by rfl) RVs.nil)) (List.nil_sublist _) ?_
  exact FrR.mkE (if_pos hr) hr

set_option maxHeartbeats 16000000 in
set_option maxRecDepth 100000 in
theorem joinOk (X Y : Int) (a b : Nat) (A : Option Addr) (c : Nat) (fs : List FrS) (W : World) (hA : FsL W A fs) (hm : fs.length ≤ maxLen) (hr0 : regErr X Y a b = 0) : Fn_ Try.prog 6 #[.agg #[iv X, iv Y, iv (a : Int), iv (b : Int)], .slice A fs.length c] W (fun v H => FrR (jE X Y a b fs js0) X Y a b (jVals (jEnd X Y a fs js0) (a * b)) v H) := by
  have hro := regErr_ok hr0
  have hX : -1048576 ≤ X ∧ X ≤ 1048576 := by omega
  have hY : -1048576 ≤ Y ∧ Y ≤ 1048576 := by omega
  have ha : 1 ≤ a ∧ a ≤ 256 := by omega
  have hb : 1 ≤ b ∧ b ≤ 256 := by omega
  have hrc : ((a * b : Nat) : Int) = (a : Int) * (b : Int) := Int.natCast_mul ..
  have habN : a * b ≤ 16384 := by omega
  unfold maxLen at hm
  refine Fn_.intro Try.func6 rfl rfl (by rfl) ?_
  refine CS.seq ?_
  refine CS.region ?_
  refine RS.box rfl (by rfl) (by rfl) ?_
  intro g2
  refine RS.alloc rfl ty26 ?_
  intro g4
  refine RS.q rfl (QO.assign) ?_
  refine RS.nil ?_
  refine thenC_n ?_
  refine CS.seq ?_
  refine CS.seq ?_
  refine CS.region ?_
  first | (refine RS.q rfl (QO.loadB ty23 (by rfl) (by repeat (first | exact List.Mem.head _ | refine List.Mem.tail _ ?_)) (by rfl)) ?_) | (refine RS.q rfl (QO.loadA ty23 (by rfl) (by repeat (first | exact List.Mem.head _ | refine List.Mem.tail _ ?_)) (by rfl) (by rfl)) ?_) | (refine RS.q rfl (QO.loadOA ty23 (by rfl) (by assumption) (by rfl)) ?_)
  refine RS.call rfl (by rfl) ok15 (by rfl) (fun w ho => checkRegion _ _ _ _ _) ?_
  rintro _ _ ⟨rfl, rfl⟩
  refine RS.q rfl (QO.assign) ?_
  refine RS.nil ?_
  refine thenC_n ?_
  refine CS.seq ?_
  refine CS.region ?_
  refine RS.q rfl (QO.move) ?_
  refine RS.qv rfl (QO.neq (by rfl) (by rfl)) (congrArg Value.bool (show (regErr X Y (a : Int) (b : Int) != 0) = false from by rw [hr0]; rfl)) ?_
  refine RS.nil ?_
  refine thenC_n ?_
  refine CS.condF (by rfl) rfl ?_
  refine CS.skip ?_
  refine thenC_n ?_
  refine CS.cut (X := Nat × Nat) [7, 22, 23, 24, 25, 26, 27, 28, 29, 30] (fun z => [(7, .pointer (some ⟨z.1, 0, none⟩))]) (fun z => [⟨z.1, 26, [iv X, iv Y, iv (a : Int), iv (b : Int), .slice (some ⟨z.2, 0, none⟩) (4 * (a * b)) (4 * (a * b))]⟩, ⟨z.2, 43, (List.replicate (4 * (a * b)) 0).map flt⟩, ⟨g4, 26, [iv 0, iv 0, iv 0, iv 0, .slice none 0 0]⟩, ⟨g2, 23, [iv X, iv Y, iv (a : Int), iv (b : Int)]⟩]) (fun z => True) ?_ ?_
  · refine CS.draw 10 rfl (by kernel_rfl) (by kernel_rfl) ?_
    first | (refine RT.take (i := 0) rfl (by kernel_rfl) rfl (QO.loadB ty23 (by rfl) (by repeat (first | exact List.Mem.head _ | refine List.Mem.tail _ ?_)) (by rfl)) ?_) | (refine RT.take (i := 0) rfl (by kernel_rfl) rfl (QO.loadA ty23 (by rfl) (by repeat (first | exact List.Mem.head _ | refine List.Mem.tail _ ?_)) (by rfl) (by rfl)) ?_) | (refine RT.take (i := 0) rfl (by kernel_rfl) rfl (QO.loadOA ty23 (by rfl) (by assumption) (by rfl)) ?_)
    refine RT.take (i := 1) rfl (by kernel_rfl) rfl (QO.fieldAddr fo23_2 (by rfl)) ?_
    first | (refine RT.take (i := 2) rfl (by kernel_rfl) rfl (QO.load ty3 (by rfl) (by repeat (first | exact List.Mem.head _ | refine List.Mem.tail _ ?_)) (by rfl)) ?_) | (refine RT.take (i := 2) rfl (by kernel_rfl) rfl (QO.loadO ty3 (by rfl) (by assumption)) ?_) | (refine RT.take (i := 2) rfl (by kernel_rfl) rfl (QO.load ty3 (by rfl) (by repeat (first | exact List.Mem.head _ | refine List.Mem.tail _ ?_)) (by assumption)) ?_)
    first | (refine RT.take (i := 3) rfl (by kernel_rfl) rfl (QO.mul (by rfl) (by rfl) (by omega) (by omega)) ?_) | (refine RT.take (i := 3) rfl (by kernel_rfl) rfl (QO.ibin (by rfl) (by rfl) trivial) ?_)
    refine RT.take (i := 4) rfl (by kernel_rfl) rfl (QO.fieldAddr fo23_3 (by rfl)) ?_
    first | (refine RT.take (i := 5) rfl (by kernel_rfl) rfl (QO.load ty3 (by rfl) (by repeat (first | exact List.Mem.head _ | refine List.Mem.tail _ ?_)) (by rfl)) ?_) | (refine RT.take (i := 5) rfl (by kernel_rfl) rfl (QO.loadO ty3 (by rfl) (by assumption)) ?_) | (refine RT.take (i := 5) rfl (by kernel_rfl) rfl (QO.load ty3 (by rfl) (by repeat (first | exact List.Mem.head _ | refine List.Mem.tail _ ?_)) (by assumption)) ?_)
    first | (refine RT.takev (i := 6) rfl (by kernel_rfl) rfl (QO.mul (by rfl) (by rfl) (by omega) (by omega)) (congrArg iv (show 4 * (a : Int) * (b : Int) = ((4 * (a * b) : Nat) : Int) by omega)) ?_) | (refine RT.takev (i := 6) rfl (by kernel_rfl) rfl (QO.ibin (by rfl) (by rfl) trivial) (congrArg iv (show 4 * (a : Int) * (b : Int) = ((4 * (a * b) : Nat) : Int) by omega)) ?_)
    refine RT.two (i := 7) (j := 9) (by kernel_rfl) rfl rfl ?_ ?_
    · refine RS.make rfl Try.underlying24 ty43 (by rfl) (by rfl) (by omega) (by omega) (by omega) (by omega) ?_
      intro g29
      refine RS.nil ⟨(by repeat (first | exact List.Sublist.refl _ | exact List.nil_sublist _ | refine List.Sublist.cons_cons _ ?_ | refine List.Sublist.cons _ ?_ | exact Sbp.refl | exact Sbp.nil | refine Sbp.cons (by repeat (first | exact Rem.head | apply Rem.tail)) ?_ | exact Sbp.app | refine Sbp.skip ?_ | exact List.sublist_append_left _ _ | exact List.sublist_append_right _ _)), ?_⟩
      refine RT.take (i := 8) rfl (by kernel_rfl) rfl (QO.build ty26 pl26 (by rfl)) ?_
      refine RT.one (i := 9) (by kernel_rfl) rfl rfl ?_
      refine RS.alloc rfl ty26 ?_
      intro g7
      refine RS.nil ⟨(by repeat (first | exact List.Sublist.refl _ | exact List.nil_sublist _ | refine List.Sublist.cons_cons _ ?_ | refine List.Sublist.cons _ ?_ | exact Sbp.refl | exact Sbp.nil | refine Sbp.cons (by repeat (first | exact Rem.head | apply Rem.tail)) ?_ | exact Sbp.app | refine Sbp.skip ?_ | exact List.sublist_append_left _ _ | exact List.sublist_append_right _ _)), ?_⟩
      refine RT.tail (i := 10) (by kernel_rfl) rfl rfl ?_
      first | refine RS.storeB ty26 (by rfl) (by rfl) (by rfl) (by rfl) (by rfl) (by repeat (first | exact Upd.head | apply Upd.tail | exact Upd.app _ Upd.head)) (by rfl) ?_ | refine RS.storeP ty26 (by rfl) (by rfl) (by rfl) (by rfl) (by rfl) (by repeat (first | exact Upd.head | apply Upd.tail | exact Upd.app _ Upd.head)) (by rfl) ?_
      refine RS.nil ?_
      refine RT.done (by kernel_rfl) ?_
      refine cutQ_n (by intro t ht; repeat (first | with_reducible exact rfl | exact frame_puts ht (frame_mix ht) _ rfl | (refine frame_put rfl ht ?_) | (refine frame_puts ht ?_ _ rfl) | exact frame_mix ht | (refine frame_mix2 rfl ht ?_) | exact rfl)) ?_
      exact ⟨(g7, g29), trivial, (by repeat (first | exact kn_nil | refine kn_cons (by rfl) ?_)), (by rw [← repl_flt]; exact (by repeat (first | exact List.Sublist.refl _ | exact List.nil_sublist _ | refine List.Sublist.cons_cons _ ?_ | refine List.Sublist.cons _ ?_ | exact Sbp.refl | exact Sbp.nil | refine Sbp.cons (by repeat (first | exact Rem.head | apply Rem.tail)) ?_ | exact Sbp.app | refine Sbp.skip ?_ | exact List.sublist_append_left _ _ | exact List.sublist_append_right _ _)))⟩
    · refine RS.alloc rfl ty26 ?_
      intro g7
      refine RS.nil ⟨(by repeat (first | exact List.Sublist.refl _ | exact List.nil_sublist _ | refine List.Sublist.cons_cons _ ?_ | refine List.Sublist.cons _ ?_ | exact Sbp.refl | exact Sbp.nil | refine Sbp.cons (by repeat (first | exact Rem.head | apply Rem.tail)) ?_ | exact Sbp.app | refine Sbp.skip ?_ | exact List.sublist_append_left _ _ | exact List.sublist_append_right _ _)), ?_⟩
      refine RT.one (i := 7) (by kernel_rfl) rfl rfl ?_
      refine RS.make rfl Try.underlying24 ty43 (by rfl) (by rfl) (by omega) (by omega) (by omega) (by omega) ?_
      intro g29
      refine RS.nil ⟨(by repeat (first | exact List.Sublist.refl _ | exact List.nil_sublist _ | refine List.Sublist.cons_cons _ ?_ | refine List.Sublist.cons _ ?_ | exact Sbp.refl | exact Sbp.nil | refine Sbp.cons (by repeat (first | exact Rem.head | apply Rem.tail)) ?_ | exact Sbp.app | refine Sbp.skip ?_ | exact List.sublist_append_left _ _ | exact List.sublist_append_right _ _)), ?_⟩
      refine RT.take (i := 8) rfl (by kernel_rfl) rfl (QO.build ty26 pl26 (by rfl)) ?_
      refine RT.tail (i := 10) (by kernel_rfl) rfl rfl ?_
      first | refine RS.storeB ty26 (by rfl) (by rfl) (by rfl) (by rfl) (by rfl) (by repeat (first | exact Upd.head | apply Upd.tail | exact Upd.app _ Upd.head)) (by rfl) ?_ | refine RS.storeP ty26 (by rfl) (by rfl) (by rfl) (by rfl) (by rfl) (by repeat (first | exact Upd.head | apply Upd.tail | exact Upd.app _ Upd.head)) (by rfl) ?_
      refine RS.nil ?_
      refine RT.done (by kernel_rfl) ?_
      refine cutQ_n (by intro t ht; repeat (first | with_reducible exact rfl | exact frame_puts ht (frame_mix ht) _ rfl | (refine frame_put rfl ht ?_) | (refine frame_puts ht ?_ _ rfl) | exact frame_mix ht | (refine frame_mix2 rfl ht ?_) | exact rfl)) ?_
      exact ⟨(g7, g29), trivial, (by repeat (first | exact kn_nil | refine kn_cons (by rfl) ?_)), (by rw [← repl_flt]; exact (by repeat (first | exact List.Sublist.refl _ | exact List.nil_sublist _ | refine List.Sublist.cons_cons _ ?_ | refine List.Sublist.cons _ ?_ | exact Sbp.refl | exact Sbp.nil | refine Sbp.cons (by repeat (first | exact Rem.head | apply Rem.tail)) ?_ | exact Sbp.app | refine Sbp.skip ?_ | exact List.sublist_append_left _ _ | exact List.sublist_append_right _ _)))⟩
  · intro z gj hz
    obtain ⟨g, gm⟩ := z
    show CS _ _ _ _ _ (puts (mix _ _ _) [(7, .pointer (some ⟨g, 0, none⟩))]) ([⟨g, 26, [iv X, iv Y, iv (a : Int), iv (b : Int), .slice (some ⟨gm, 0, none⟩) (4 * (a * b)) (4 * (a * b))]⟩, ⟨gm, 43, (List.replicate (4 * (a * b)) 0).map flt⟩, ⟨g4, 26, [iv 0, iv 0, iv 0, iv 0, .slice none 0 0]⟩, ⟨g2, 23, [iv X, iv Y, iv (a : Int), iv (b : Int)]⟩])
    refine CS.seq ?_
    refine CS.region ?_
    refine RS.q rfl (QO.fieldAddr fo23_2 (by rfl)) ?_
    first | (refine RS.q rfl (QO.load ty3 (by rfl) (by repeat (first | exact List.Mem.head _ | refine List.Mem.tail _ ?_)) (by rfl)) ?_) | (refine RS.q rfl (QO.loadO ty3 (by rfl) (by assumption)) ?_) | (refine RS.q rfl (QO.load ty3 (by rfl) (by repeat (first | exact List.Mem.head _ | refine List.Mem.tail _ ?_)) (by assumption)) ?_)
    refine RS.q rfl (QO.fieldAddr fo23_3 (by rfl)) ?_
    first | (refine RS.q rfl (QO.load ty3 (by rfl) (by repeat (first | exact List.Mem.head _ | refine List.Mem.tail _ ?_)) (by rfl)) ?_) | (refine RS.q rfl (QO.loadO ty3 (by rfl) (by assumption)) ?_) | (refine RS.q rfl (QO.load ty3 (by rfl) (by repeat (first | exact List.Mem.head _ | refine List.Mem.tail _ ?_)) (by assumption)) ?_)
    refine RS.qv rfl (QO.mul (by rfl) (by rfl) (by rw [← hrc]; omega) (by rw [← hrc]; omega)) (congrArg iv (show (a : Int) * (b : Int) = ((a * b : Nat) : Int) from hrc.symm)) ?_
    refine RS.make rfl Try.underlying45 ty4 (by rfl) (by rfl) (by omega) (by omega) (by omega) (by omega) ?_
    intro g36
    refine RS.q rfl (QO.assign) ?_
    refine RS.nil ?_
    refine thenC_n ?_
    refine CS.seq ?_
    refine CS.region ?_
    refine RS.q rfl (QO.assign) ?_
    refine RS.nil ?_
    refine thenC_n ?_
    refine CS.seq ?_
    refine CS.seq ?_
    refine CS.region ?_
    refine RS.q rfl (QO.move) ?_
    refine RS.q rfl (QO.lenS Try.underlying27 (by rfl)) ?_
    refine RS.q rfl (QO.move) ?_
    refine RS.nil ?_
    refine thenC_n ?_
    refine CS.block ?_
    refine CS.loop (X := Nat × JS) (5 :: 9 :: 11 :: 12 :: 13 :: 14 :: 15 :: 39 :: 40 :: 41 :: 42 :: 43 :: 44 :: 45 :: 46 :: 47 :: 48 :: 49 :: 50 :: 51 :: 52 :: 53 :: 54 :: 55 :: 56 :: 57 :: 58 :: 59 :: 60 :: 61 :: 62 :: 63 :: 64 :: 65 :: 66 :: 67 :: 68 :: 69 :: 70 :: 71 :: 72 :: 73 :: 74 :: 75 :: 76 :: 77 :: 78 :: 79 :: 80 :: 81 :: 82 :: 83 :: 84 :: 85 :: 86 :: 87 :: 88 :: 89 :: 90 :: 91 :: 92 :: 93 :: 94 :: 95 :: 96 :: 97 :: 98 :: 99 :: 100 :: 101 :: []) (fun z => [(39, iv (z.1 : Int)), (9, iv ((cntC z.2.cov (a * b) : Nat) : Int))]) (fun z => [⟨g, 26, [iv X, iv Y, iv (a : Int), iv (b : Int), .slice (some ⟨gm, 0, none⟩) (4 * (a * b)) (4 * (a * b))]⟩, ⟨gm, 43, (outV z.2 (a * b)).map flt⟩, ⟨g36, 4, covC z.2 (a * b)⟩, ⟨g4, 26, [iv 0, iv 0, iv 0, iv 0, .slice none 0 0]⟩, ⟨g2, 23, [iv X, iv Y, iv (a : Int), iv (b : Int)]⟩]) (fun z => z.1 ≤ fs.length ∧ jE X Y a b (fs.drop z.1) z.2 = jE X Y a b fs js0 ∧ jEnd X Y a (fs.drop z.1) z.2 = jEnd X Y a fs js0) (fun z => fs.length - z.1) (0, js0) ⟨Nat.zero_le _, rfl, rfl⟩ ?_ ?_ ?_
    · exact kn_cons (by rfl) (kn_cons (cnt0 _) kn_nil)
    · exact (by rw [outV_zero, covC_zero]; exact (by repeat (first | exact List.Sublist.refl _ | exact List.nil_sublist _ | refine List.Sublist.cons_cons _ ?_ | refine List.Sublist.cons _ ?_ | exact Sbp.refl | exact Sbp.nil | refine Sbp.cons (by repeat (first | exact Rem.head | apply Rem.tail)) ?_ | exact Sbp.app | refine Sbp.skip ?_ | exact List.sublist_append_left _ _ | exact List.sublist_append_right _ _)))
    · intro z gj8 hz
      obtain ⟨k, s⟩ := z
      obtain ⟨hk, hjE, hjV⟩ := hz
      simp only at hk hjE hjV
      show CS _ _ _ _ _ (puts (mix _ _ _) [(39, iv (k : Int)), (9, iv ((cntC s.cov (a * b) : Nat) : Int))]) ([⟨g, 26, [iv X, iv Y, iv (a : Int), iv (b : Int), .slice (some ⟨gm, 0, none⟩) (4 * (a * b)) (4 * (a * b))]⟩, ⟨gm, 43, (outV s (a * b)).map flt⟩, ⟨g36, 4, covC s (a * b)⟩, ⟨g4, 26, [iv 0, iv 0, iv 0, iv 0, .slice none 0 0]⟩, ⟨g2, 23, [iv X, iv Y, iv (a : Int), iv (b : Int)]⟩])
      refine CS.seq ?_
      refine CS.region ?_
      refine RS.q rfl (QO.lss (by rfl) (by rfl)) ?_
      refine RS.nil ?_
      refine thenC_n ?_
      refine CS.seq ?_
      refine CS.cond (by rfl) (fun hb0 => ?_) (fun hb0 => ?_)
      · have hb0p := of_decide_eq_true hb0
        refine CS.skip ?_
        refine thenC_n ?_
        refine CS.seq ?_
        refine CS.block ?_
        refine CS.seq ?_
        refine CS.region ?_
        have hkl : k < fs.length := by omega
        have hx1 := hA (by omega)
        obtain ⟨bA, oA, hA0, hcell⟩ := hx1
        subst hA0
        have hx2 : ∃ f, fs[k]? = some f := ⟨_, List.getElem?_eq_getElem hkl⟩
        obtain ⟨f, hf⟩ := hx2
        have hx3 := hcell k f hf
        obtain ⟨hc5, hFS, hzl, hnc, hcm⟩ := hx3
        rw [drop_cons hf] at hjE hjV
        refine RS.q rfl (QO.idx Try.underlying27 ty26 (by rfl) (by rfl) (by omega) (by omega)) ?_
        refine RS.q rfl (QO.loadOA ty26 (vs := [iv f.x, iv f.y, iv f.w, iv f.h, .slice f.A f.n f.c]) (by rfl) hc5 (by rfl)) ?_
        refine RS.alloc rfl ty26 ?_
        intro g11
        first | refine RS.storeB ty26 (by rfl) (by rfl) (by rfl) (by rfl) (by rfl) (by repeat (first | exact Upd.head | apply Upd.tail | exact Upd.app _ Upd.head)) (by rfl) ?_ | refine RS.storeP ty26 (by rfl) (by rfl) (by rfl) (by rfl) (by rfl) (by repeat (first | exact Upd.head | apply Upd.tail | exact Upd.app _ Upd.head)) (by rfl) ?_
        refine RS.nil ?_
        refine thenC_n ?_
        refine CS.seq ?_
        refine CS.seq ?_
        refine CS.region ?_
        first | (refine RS.q rfl (QO.loadB ty26 (by rfl) (by repeat (first | exact List.Mem.head _ | refine List.Mem.tail _ ?_)) (by rfl)) ?_) | (refine RS.q rfl (QO.loadA ty26 (by rfl) (by repeat (first | exact List.Mem.head _ | refine List.Mem.tail _ ?_)) (by rfl) (by rfl)) ?_) | (refine RS.q rfl (QO.loadOA ty26 (by rfl) (by assumption) (by rfl)) ?_)
        refine RS.call rfl (by rfl) ok16 (by rfl) (fun w ho => check f.x f.y f.w f.h f.A f.n f.c _) ?_
        rintro _ _ ⟨rfl, rfl⟩
        refine RS.q rfl (QO.assign) ?_
        refine RS.nil ?_
        refine thenC_n ?_
        refine CS.seq ?_
        refine CS.region ?_
        refine RS.q rfl (QO.move) ?_
        refine RS.q rfl (QO.neq (by rfl) (by rfl)) ?_
        refine RS.nil ?_
        refine thenC_n ?_
        refine CS.cond (by rfl) (fun hb1 => ?_) (fun hb1 => ?_)
        · have hb1p := bne_iff_ne.1 hb1
          refine CS.seq ?_
          refine CS.region ?_
          refine RS.q rfl (QO.build ty26 pl26 (by rfl)) ?_
          refine RS.q rfl (QO.move) ?_
          first | refine RS.storeB ty26 (by rfl) (by rfl) (by rfl) (by rfl) (by rfl) (by repeat (first | exact Upd.head | apply Upd.tail | exact Upd.app _ Upd.head)) (by rfl) ?_ | refine RS.storeP ty26 (by rfl) (by rfl) (by rfl) (by rfl) (by rfl) (by repeat (first | exact Upd.head | apply Upd.tail | exact Upd.app _ Upd.head)) (by rfl) ?_
          refine RS.q rfl (QO.assign) ?_
          refine RS.nil ?_
          refine thenC_n ?_
          refine CS.ret ?_
          refine thenC_r ?_
          refine blockC_r ?_
          refine thenC_r ?_
          refine loopQ_r ?_
          refine blockC_r ?_
          refine thenC_r ?_
          refine retQ.mk (H' := []) (.inr rfl) (RVs.cellA ty26 (by rfl) (by repeat (first | exact List.Mem.head _ | refine List.Mem.tail _ ?_)) (by rfl) (RVs.tmp (by rfl) RVs.nil)) (List.nil_sublist _) ?_
          exact FrR.mkE (hjE.symm.trans (jE_bad (by assumption))) (by assumption)
        · have hb1p := of_bne_false hb1
          refine CS.skip ?_
          refine thenC_n ?_
          refine CS.seq ?_
          refine CS.seq ?_
          refine CS.region ?_
          have hfr : frErr f.x f.y f.w f.h f.n = 0 := by assumption
          have hfo := frErr_ok hfr
          have hrg := regErr_ok hfo.1
          refine RS.q rfl (QO.fieldAddr fo26_0 (by rfl)) ?_
          first | (refine RS.q rfl (QO.loadB ty23 (by rfl) (by repeat (first | exact List.Mem.head _ | refine List.Mem.tail _ ?_)) (by rfl)) ?_) | (refine RS.q rfl (QO.loadA ty23 (by rfl) (by repeat (first | exact List.Mem.head _ | refine List.Mem.tail _ ?_)) (by rfl) (by rfl)) ?_) | (refine RS.q rfl (QO.loadOA ty23 (by rfl) (by assumption) (by rfl)) ?_)
          first | (refine RS.q rfl (QO.loadB ty23 (by rfl) (by repeat (first | exact List.Mem.head _ | refine List.Mem.tail _ ?_)) (by rfl)) ?_) | (refine RS.q rfl (QO.loadA ty23 (by rfl) (by repeat (first | exact List.Mem.head _ | refine List.Mem.tail _ ?_)) (by rfl) (by rfl)) ?_) | (refine RS.q rfl (QO.loadOA ty23 (by rfl) (by assumption) (by rfl)) ?_)
          refine RS.call rfl (by rfl) ok17 (by rfl) (fun w ho => inside f.x f.y f.w f.h X Y a b _ (by omega) (by omega) (by omega) (by omega) (by omega) (by omega) (by omega) (by omega)) ?_
          rintro _ _ ⟨rfl, rfl⟩
          refine RS.q rfl (QO.not (by rfl)) ?_
          refine RS.nil ?_
          refine thenC_n ?_
          refine CS.cond (by rfl) (fun hb2 => ?_) (fun hb2 => ?_)
          · have hb2p := Eq.mp (Bool.not_eq_true' _) hb2
            refine CS.seq ?_
            refine CS.region ?_
            refine RS.q rfl (QO.build ty26 pl26 (by rfl)) ?_
            first | refine RS.storeB ty26 (by rfl) (by rfl) (by rfl) (by rfl) (by rfl) (by repeat (first | exact Upd.head | apply Upd.tail | exact Upd.app _ Upd.head)) (by rfl) ?_ | refine RS.storeP ty26 (by rfl) (by rfl) (by rfl) (by rfl) (by rfl) (by repeat (first | exact Upd.head | apply Upd.tail | exact Upd.app _ Upd.head)) (by rfl) ?_
            refine RS.q rfl (QO.assign) ?_
            refine RS.nil ?_
            refine thenC_n ?_
            refine CS.ret ?_
            refine thenC_r ?_
            refine blockC_r ?_
            refine thenC_r ?_
            refine loopQ_r ?_
            refine blockC_r ?_
            refine thenC_r ?_
            refine retQ.mk (H' := []) (.inr rfl) (RVs.cellA ty26 (by rfl) (by repeat (first | exact List.Mem.head _ | refine List.Mem.tail _ ?_)) (by rfl) (RVs.tmp (by rfl) RVs.nil)) (List.nil_sublist _) ?_
            exact FrR.mkE (hjE.symm.trans (jE_out hfr (by assumption))) (by decide)
          · have hb2p := Eq.mp (Bool.not_eq_false' _) hb2
            refine CS.skip ?_
            refine thenC_n ?_
            refine CS.seq ?_
            refine CS.seq ?_
            refine CS.region ?_
            have hins : insB f.x f.y f.w f.h X Y a b = true := by assumption
            have hx6 := ins_at hfo.1 hins
            obtain ⟨p, q, u, v, hfx, hfy, hfw, hfh, hpu, hqv, hu1, hv1⟩ := hx6
            refine RS.q rfl (QO.fieldAddr fo26_0 (by rfl)) ?_
            refine RS.q rfl (QO.fieldAddr fo23_1 (by rfl)) ?_
            first | (refine RS.q rfl (QO.load ty3 (by rfl) (by repeat (first | exact List.Mem.head _ | refine List.Mem.tail _ ?_)) (by rfl)) ?_) | (refine RS.q rfl (QO.loadO ty3 (by rfl) (by assumption)) ?_) | (refine RS.q rfl (QO.load ty3 (by rfl) (by repeat (first | exact List.Mem.head _ | refine List.Mem.tail _ ?_)) (by assumption)) ?_)
            refine RS.q rfl (QO.assign) ?_
            refine RS.nil ?_
            refine thenC_n ?_
            refine CS.block ?_
            refine CS.loop (X := Nat) (5 :: 9 :: 13 :: 14 :: 15 :: 58 :: 59 :: 60 :: 61 :: 62 :: 63 :: 64 :: 65 :: 66 :: 67 :: 68 :: 69 :: 70 :: 71 :: 72 :: 73 :: 74 :: 75 :: 76 :: 77 :: 78 :: 79 :: 80 :: 81 :: 82 :: 83 :: 84 :: 85 :: 86 :: 87 :: 88 :: 89 :: 90 :: 91 :: 92 :: 93 :: 94 :: 95 :: 96 :: 97 :: []) (fun j => [(13, iv (f.y + (j : Int))), (9, iv ((cntC (jMid X Y a f s p u q j 0).cov (a * b) : Nat) : Int))]) (fun j => [⟨g11, 26, [iv f.x, iv f.y, iv f.w, iv f.h, .slice f.A f.n f.c]⟩, ⟨g, 26, [iv X, iv Y, iv (a : Int), iv (b : Int), .slice (some ⟨gm, 0, none⟩) (4 * (a * b)) (4 * (a * b))]⟩, ⟨gm, 43, (outV s (a * b)).map flt⟩, ⟨g36, 4, covC (jMid X Y a f s p u q j 0) (a * b)⟩, ⟨g4, 26, [iv 0, iv 0, iv 0, iv 0, .slice none 0 0]⟩, ⟨g2, 23, [iv X, iv Y, iv (a : Int), iv (b : Int)]⟩]) (fun j => j ≤ v ∧ jFree a p u q j 0 s) (fun j => v - j) 0 ⟨Nat.zero_le _, jFree_zero a p u q s⟩ ?_ ?_ ?_
            · exact kn_cons (congrArg iv (by simp)) (kn_cons (cntJ (X := X) (Y := Y) jMid_zero.symm) kn_nil)
            · exact (by rw [jMid_zero]; exact (by repeat (first | exact List.Sublist.refl _ | exact List.nil_sublist _ | refine List.Sublist.cons_cons _ ?_ | refine List.Sublist.cons _ ?_ | exact Sbp.refl | exact Sbp.nil | refine Sbp.cons (by repeat (first | exact Rem.head | apply Rem.tail)) ?_ | exact Sbp.app | refine Sbp.skip ?_ | exact List.sublist_append_left _ _ | exact List.sublist_append_right _ _)))
            · intro j gj16 hz
              obtain ⟨hj, hfree⟩ := hz
              refine CS.seq ?_
              refine CS.seq ?_
              refine CS.region ?_
              refine RS.q rfl (QO.move) ?_
              refine RS.q rfl (QO.fieldAddr fo26_0 (by rfl)) ?_
              refine RS.q rfl (QO.fieldAddr fo23_1 (by rfl)) ?_
              first | (refine RS.q rfl (QO.load ty3 (by rfl) (by repeat (first | exact List.Mem.head _ | refine List.Mem.tail _ ?_)) (by rfl)) ?_) | (refine RS.q rfl (QO.loadO ty3 (by rfl) (by assumption)) ?_) | (refine RS.q rfl (QO.load ty3 (by rfl) (by repeat (first | exact List.Mem.head _ | refine List.Mem.tail _ ?_)) (by assumption)) ?_)
              refine RS.q rfl (QO.fieldAddr fo26_0 (by rfl)) ?_
              refine RS.q rfl (QO.fieldAddr fo23_3 (by rfl)) ?_
              first | (refine RS.q rfl (QO.load ty3 (by rfl) (by repeat (first | exact List.Mem.head _ | refine List.Mem.tail _ ?_)) (by rfl)) ?_) | (refine RS.q rfl (QO.loadO ty3 (by rfl) (by assumption)) ?_) | (refine RS.q rfl (QO.load ty3 (by rfl) (by repeat (first | exact List.Mem.head _ | refine List.Mem.tail _ ?_)) (by assumption)) ?_)
              first | (refine RS.q rfl (QO.add (by rfl) (by rfl) (by omega) (by omega)) ?_) | (refine RS.q rfl (QO.ibin (by rfl) (by rfl) trivial) ?_)
              refine RS.q rfl (QO.lss (by rfl) (by rfl)) ?_
              refine RS.nil ?_
              refine thenC_n ?_
              refine CS.cond (by rfl) (fun hb3 => ?_) (fun hb3 => ?_)
              · have hb3p := of_decide_eq_true hb3
                refine CS.skip ?_
                refine thenC_n ?_
                refine CS.seq ?_
                refine CS.block ?_
                refine CS.seq ?_
                refine CS.region ?_
                refine RS.q rfl (QO.fieldAddr fo26_0 (by rfl)) ?_
                refine RS.q rfl (QO.fieldAddr fo23_0 (by rfl)) ?_
                first | (refine RS.q rfl (QO.load ty3 (by rfl) (by repeat (first | exact List.Mem.head _ | refine List.Mem.tail _ ?_)) (by rfl)) ?_) | (refine RS.q rfl (QO.loadO ty3 (by rfl) (by assumption)) ?_) | (refine RS.q rfl (QO.load ty3 (by rfl) (by repeat (first | exact List.Mem.head _ | refine List.Mem.tail _ ?_)) (by assumption)) ?_)
                refine RS.q rfl (QO.assign) ?_
                refine RS.nil ?_
                refine thenC_n ?_
                refine CS.block ?_
                have hjv : j < v := by omega
                refine CS.loop (X := Nat) (5 :: 9 :: 14 :: 15 :: 72 :: 73 :: 74 :: 75 :: 76 :: 77 :: 78 :: 79 :: 80 :: 81 :: 82 :: 83 :: 84 :: 85 :: 86 :: 87 :: 88 :: 89 :: 90 :: 91 :: 92 :: 93 :: 94 :: 95 :: 96 :: 97 :: []) (fun i => [(14, iv (f.x + (i : Int))), (9, iv ((cntC (jMid X Y a f s p u q j i).cov (a * b) : Nat) : Int))]) (fun i => [⟨g11, 26, [iv f.x, iv f.y, iv f.w, iv f.h, .slice f.A f.n f.c]⟩, ⟨g, 26, [iv X, iv Y, iv (a : Int), iv (b : Int), .slice (some ⟨gm, 0, none⟩) (4 * (a * b)) (4 * (a * b))]⟩, ⟨gm, 43, (outV s (a * b)).map flt⟩, ⟨g36, 4, covC (jMid X Y a f s p u q j i) (a * b)⟩, ⟨g4, 26, [iv 0, iv 0, iv 0, iv 0, .slice none 0 0]⟩, ⟨g2, 23, [iv X, iv Y, iv (a : Int), iv (b : Int)]⟩]) (fun i => i ≤ u ∧ jFree a p u q j i s) (fun i => u - i) 0 ⟨Nat.zero_le _, hfree⟩ ?_ ?_ ?_
                · exact kn_cons (congrArg iv (by simp)) (kn_cons (by rfl) kn_nil)
                · exact (by repeat (first | exact List.Sublist.refl _ | exact List.nil_sublist _ | refine List.Sublist.cons_cons _ ?_ | refine List.Sublist.cons _ ?_ | exact Sbp.refl | exact Sbp.nil | refine Sbp.cons (by repeat (first | exact Rem.head | apply Rem.tail)) ?_ | exact Sbp.app | refine Sbp.skip ?_ | exact List.sublist_append_left _ _ | exact List.sublist_append_right _ _))
                · intro i gj19 hz
                  obtain ⟨hi, hfre2⟩ := hz
                  refine CS.seq ?_
                  refine CS.seq ?_
                  refine CS.region ?_
                  refine RS.q rfl (QO.move) ?_
                  refine RS.q rfl (QO.fieldAddr fo26_0 (by rfl)) ?_
                  refine RS.q rfl (QO.fieldAddr fo23_0 (by rfl)) ?_
                  first | (refine RS.q rfl (QO.load ty3 (by rfl) (by repeat (first | exact List.Mem.head _ | refine List.Mem.tail _ ?_)) (by rfl)) ?_) | (refine RS.q rfl (QO.loadO ty3 (by rfl) (by assumption)) ?_) | (refine RS.q rfl (QO.load ty3 (by rfl) (by repeat (first | exact List.Mem.head _ | refine List.Mem.tail _ ?_)) (by assumption)) ?_)
                  refine RS.q rfl (QO.fieldAddr fo26_0 (by rfl)) ?_
                  refine RS.q rfl (QO.fieldAddr fo23_2 (by rfl)) ?_
                  first | (refine RS.q rfl (QO.load ty3 (by rfl) (by repeat (first | exact List.Mem.head _ | refine List.Mem.tail _ ?_)) (by rfl)) ?_) | (refine RS.q rfl (QO.loadO ty3 (by rfl) (by assumption)) ?_) | (refine RS.q rfl (QO.load ty3 (by rfl) (by repeat (first | exact List.Mem.head _ | refine List.Mem.tail _ ?_)) (by assumption)) ?_)
                  first | (refine RS.q rfl (QO.add (by rfl) (by rfl) (by omega) (by omega)) ?_) | (refine RS.q rfl (QO.ibin (by rfl) (by rfl) trivial) ?_)
                  refine RS.q rfl (QO.lss (by rfl) (by rfl)) ?_
                  refine RS.nil ?_
                  refine thenC_n ?_
                  refine CS.cond (by rfl) (fun hb4 => ?_) (fun hb4 => ?_)
                  · have hb4p := of_decide_eq_true hb4
                    refine CS.skip ?_
                    refine thenC_n ?_
                    refine CS.seq ?_
                    refine CS.block ?_
                    refine CS.seq ?_
                    refine CS.region ?_
                    have hiu : i < u := by omega
                    have hidx := at_bd (a := a) (b := b) (i := p + i) (j := q + j) (by omega) (by omega)
                    first | (refine RS.q rfl (QO.loadB ty23 (by rfl) (by repeat (first | exact List.Mem.head _ | refine List.Mem.tail _ ?_)) (by rfl)) ?_) | (refine RS.q rfl (QO.loadA ty23 (by rfl) (by repeat (first | exact List.Mem.head _ | refine List.Mem.tail _ ?_)) (by rfl) (by rfl)) ?_) | (refine RS.q rfl (QO.loadOA ty23 (by rfl) (by assumption) (by rfl)) ?_)
                    refine RS.q rfl (QO.move) ?_
                    refine RS.q rfl (QO.move) ?_
                    refine RS.call rfl (by rfl) ok18 (by rfl) (fun w ho => offset_ X Y (f.x + (i : Int)) (f.y + (j : Int)) (b : Int) a (p + i) (q + j) (4 * (a * (q + j) + (p + i))) _ (by omega) (by omega) rfl hX hY (by omega) (by omega) (by omega)) ?_
                    rintro _ _ ⟨rfl, rfl⟩
                    refine RS.qv rfl (QO.quo (by rfl) (by rfl) (by omega) (by omega) (by omega)) (congrArg iv (quo4 (a * (q + j) + (p + i)))) ?_
                    refine RS.q rfl (QO.assign) ?_
                    refine RS.nil ?_
                    refine thenC_n ?_
                    refine CS.seq ?_
                    refine CS.seq ?_
                    refine CS.region ?_
                    refine RS.q rfl (QO.move) ?_
                    refine RS.q rfl (QO.move) ?_
                    first | (refine RS.q rfl (QO.idx0 Try.underlying45 ty4 (by rfl) (by rfl) (by rfl) (by omega)) ?_) | (refine RS.q rfl (QO.idxn Try.underlying45 ty4 (by rfl) (by rfl) (by rfl) (by omega)) ?_) | (refine RS.q rfl (QO.idx1 Try.underlying45 ty4 (by rfl) (by rfl) (by omega) (by omega)) ?_)
                    refine RS.q rfl (QO.load ty4 (by rfl) (by repeat (first | exact List.Mem.head _ | refine List.Mem.tail _ ?_)) (covC_at hidx)) ?_
                    refine RS.nil ?_
                    refine thenC_n ?_
                    refine CS.cond (by rfl) (fun hb5 => ?_) (fun hb5 => ?_)
                    · refine CS.seq ?_
                      refine CS.region ?_
                      refine RS.q rfl (QO.build ty26 pl26 (by rfl)) ?_
                      first | refine RS.storeB ty26 (by rfl) (by rfl) (by rfl) (by rfl) (by rfl) (by repeat (first | exact Upd.head | apply Upd.tail | exact Upd.app _ Upd.head)) (by rfl) ?_ | refine RS.storeP ty26 (by rfl) (by rfl) (by rfl) (by rfl) (by rfl) (by repeat (first | exact Upd.head | apply Upd.tail | exact Upd.app _ Upd.head)) (by rfl) ?_
                      refine RS.q rfl (QO.assign) ?_
                      refine RS.nil ?_
                      refine thenC_n ?_
                      refine CS.ret ?_
                      refine thenC_r ?_
                      refine blockC_r ?_
                      refine thenC_r ?_
                      refine loopQ_r ?_
                      refine blockC_r ?_
                      refine blockC_r ?_
                      refine thenC_r ?_
                      refine loopQ_r ?_
                      refine blockC_r ?_
                      refine thenC_r ?_
                      refine blockC_r ?_
                      refine thenC_r ?_
                      refine loopQ_r ?_
                      refine blockC_r ?_
                      refine thenC_r ?_
                      refine retQ.mk (H' := []) (.inr rfl) (RVs.cellA ty26 (by rfl) (by repeat (first | exact List.Mem.head _ | refine List.Mem.tail _ ?_)) (by rfl) (RVs.tmp (by rfl) RVs.nil)) (List.nil_sublist _) ?_
                      exact FrR.mkE (hjE.symm.trans (jE_hit hfr hins (jHit_of hfx hfy hfw hfh hpu hqv hjv hiu (by assumption)))) (by decide)
                    · refine CS.skip ?_
                      refine thenC_n ?_
                      refine CS.seq ?_
                      refine CS.region ?_
                      refine RS.q rfl (QO.move) ?_
                      refine RS.q rfl (QO.move) ?_
                      have hcl := cntC_le (jMid X Y a f s p u q j i).cov (a * b)
                      first | (refine RS.q rfl (QO.idx0 Try.underlying45 ty4 (by rfl) (by rfl) (by rfl) (by omega)) ?_) | (refine RS.q rfl (QO.idxn Try.underlying45 ty4 (by rfl) (by rfl) (by rfl) (by omega)) ?_) | (refine RS.q rfl (QO.idx1 Try.underlying45 ty4 (by rfl) (by rfl) (by omega) (by omega)) ?_)
                      refine RS.store1e ty4 rfl (by rfl) (by rfl) (by rfl) (covC_set (s' := (jMid X Y a f s p u q j (i + 1))) (fun k9 => jMid_cov hpu hiu k9)) (by repeat (first | exact Upd.head | apply Upd.tail | exact Upd.app _ Upd.head)) (by rw [covC_len]; exact hidx) ?_
                      refine RS.nil ?_
                      refine thenC_n ?_
                      refine CS.region ?_
                      refine RS.q rfl (QO.move) ?_
                      refine RS.q rfl (QO.add (by rfl) (by rfl) (by omega) (by omega)) ?_
                      refine RS.q rfl (QO.assign) ?_
                      refine RS.nil ?_
                      refine blockC_n ?_
                      refine thenC_n ?_
                      refine CS.region ?_
                      refine RS.q rfl (QO.move) ?_
                      first | (refine RS.q rfl (QO.add (by rfl) (by rfl) (by omega) (by omega)) ?_) | (refine RS.q rfl (QO.ibin (by rfl) (by rfl) trivial) ?_)
                      refine RS.q rfl (QO.assign) ?_
                      refine RS.nil ?_
                      refine loopQ_n (by intro t ht; repeat (first | with_reducible exact rfl | exact frame_puts ht (frame_mix ht) _ rfl | (refine frame_put rfl ht ?_) | (refine frame_puts ht ?_ _ rfl) | exact frame_mix ht | (refine frame_mix2 rfl ht ?_) | exact rfl)) ?_
                      exact ⟨i + 1, ⟨by omega, jFree_step hpu hiu hfre2 (by assumption)⟩, by omega, kn_cons (congrArg iv (by omega)) (kn_cons (congrArg iv (by rw [cnt_step hpu hqv hjv hiu (by assumption)]; omega)) kn_nil), (by repeat (first | exact List.Sublist.refl _ | exact List.nil_sublist _ | refine List.Sublist.cons_cons _ ?_ | refine List.Sublist.cons _ ?_ | exact Sbp.refl | exact Sbp.nil | refine Sbp.cons (by repeat (first | exact Rem.head | apply Rem.tail)) ?_ | exact Sbp.app | refine Sbp.skip ?_ | exact List.sublist_append_left _ _ | exact List.sublist_append_right _ _))⟩
                  · have hb4p := of_decide_eq_false hb4
                    refine CS.exit ?_
                    refine thenC_x ?_
                    refine loopQ_x ?_
                    refine blockC_x ?_
                    refine blockC_n ?_
                    refine thenC_n ?_
                    refine CS.region ?_
                    refine RS.q rfl (QO.move) ?_
                    first | (refine RS.q rfl (QO.add (by rfl) (by rfl) (by omega) (by omega)) ?_) | (refine RS.q rfl (QO.ibin (by rfl) (by rfl) trivial) ?_)
                    refine RS.q rfl (QO.assign) ?_
                    refine RS.nil ?_
                    refine loopQ_n (by intro t ht; repeat (first | with_reducible exact rfl | exact frame_puts ht (frame_mix ht) _ rfl | (refine frame_put rfl ht ?_) | (refine frame_puts ht ?_ _ rfl) | exact frame_mix ht | (refine frame_mix2 rfl ht ?_) | exact rfl)) ?_
                    have hie : i = u := by omega
                    have hM : (jMid X Y a f s p u q j i) = (jMid X Y a f s p u q (j + 1) 0) := by rw [hie]; exact jMid_row
                    exact ⟨j + 1, ⟨by omega, jFree_row (hie ▸ hfre2)⟩, by omega, kn_cons (congrArg iv (by omega)) (kn_cons (cntJ (X := X) (Y := Y) hM) kn_nil), (by rw [← hM]; exact (by repeat (first | exact List.Sublist.refl _ | exact List.nil_sublist _ | refine List.Sublist.cons_cons _ ?_ | refine List.Sublist.cons _ ?_ | exact Sbp.refl | exact Sbp.nil | refine Sbp.cons (by repeat (first | exact Rem.head | apply Rem.tail)) ?_ | exact Sbp.app | refine Sbp.skip ?_ | exact List.sublist_append_left _ _ | exact List.sublist_append_right _ _)))⟩
              · have hb3p := of_decide_eq_false hb3
                refine CS.exit ?_
                refine thenC_x ?_
                refine loopQ_x ?_
                refine blockC_x ?_
                refine thenC_n ?_
                refine CS.region ?_
                first | (refine RS.q rfl (QO.loadB ty26 (by rfl) (by repeat (first | exact List.Mem.head _ | refine List.Mem.tail _ ?_)) (by rfl)) ?_) | (refine RS.q rfl (QO.loadA ty26 (by rfl) (by repeat (first | exact List.Mem.head _ | refine List.Mem.tail _ ?_)) (by rfl) (by rfl)) ?_) | (refine RS.q rfl (QO.loadOA ty26 (by rfl) (by assumption) (by rfl)) ?_)
                first | (refine RS.q rfl (QO.loadB ty26 (by rfl) (by repeat (first | exact List.Mem.head _ | refine List.Mem.tail _ ?_)) (by rfl)) ?_) | (refine RS.q rfl (QO.loadA ty26 (by rfl) (by repeat (first | exact List.Mem.head _ | refine List.Mem.tail _ ?_)) (by rfl) (by rfl)) ?_) | (refine RS.q rfl (QO.loadOA ty26 (by rfl) (by assumption) (by rfl)) ?_)
                refine RS.callH (⟨gm, 43, (outV s (a * b)).map flt⟩ :: ⟨g, 26, [iv X, iv Y, iv (a : Int), iv (b : Int), .slice (some ⟨gm, 0, none⟩) (4 * (a * b)) (4 * (a * b))]⟩ :: ⟨g36, 4, covC (jMid X Y a f s p u q j 0) (a * b)⟩ :: ⟨g4, 26, [iv 0, iv 0, iv 0, iv 0, .slice none 0 0]⟩ :: ⟨g2, 23, [iv X, iv Y, iv (a : Int), iv (b : Int)]⟩ :: []) rfl (by rfl) ok19 (by rfl) (by repeat (first | exact List.Sublist.refl _ | exact List.nil_sublist _ | refine List.Sublist.cons_cons _ ?_ | refine List.Sublist.cons _ ?_ | exact Sbp.refl | exact Sbp.nil | refine Sbp.cons (by repeat (first | exact Rem.head | apply Rem.tail)) ?_ | exact Sbp.app | refine Sbp.skip ?_ | exact List.sublist_append_left _ _ | exact List.sublist_append_right _ _)) (fun w ho => copyJ X Y a b gm _ _ u v f s _ _ rfl hzl hFS hfo.2 hfw hfh hX hY ha hb (by omega) (by omega) (by omega) (by omega)) ?_
                rintro _ _ ⟨rfl, rfl⟩
                refine RS.nil ?_
                refine blockC_n ?_
                refine thenC_n ?_
                refine CS.region ?_
                first | (refine RS.q rfl (QO.add (by rfl) (by rfl) (by omega) (by omega)) ?_) | (refine RS.q rfl (QO.ibin (by rfl) (by rfl) trivial) ?_)
                refine RS.q rfl (QO.move) ?_
                refine RS.nil ?_
                refine loopQ_n (by intro t ht; repeat (first | with_reducible exact rfl | exact frame_puts ht (frame_mix ht) _ rfl | (refine frame_put rfl ht ?_) | (refine frame_puts ht ?_ _ rfl) | exact frame_mix ht | (refine frame_mix2 rfl ht ?_) | exact rfl)) ?_
                have hjv9 : j = v := by omega
                have hM : (jMid X Y a f s p u q j 0) = jStep X Y a f s := by rw [hjv9]; exact jMid_all hfx hfy hfw hfh
                have hht := jHit_no (b := b) hfx hfy hfw hfh (hjv9 ▸ hfree)
                rw [jE_cons hfr hins hht] at hjE
                exact ⟨(k + 1, jStep X Y a f s), ⟨by show k + 1 ≤ fs.length; omega, hjE, hjV⟩, by show fs.length - (k + 1) < fs.length - k; omega, kn_cons (by rfl) (kn_cons (cntJ (X := X) (Y := Y) hM) kn_nil), (by rw [← hM]; exact (by repeat (first | exact List.Sublist.refl _ | exact List.nil_sublist _ | refine List.Sublist.cons_cons _ ?_ | refine List.Sublist.cons _ ?_ | exact Sbp.refl | exact Sbp.nil | refine Sbp.cons (by repeat (first | exact Rem.head | apply Rem.tail)) ?_ | exact Sbp.app | refine Sbp.skip ?_ | exact List.sublist_append_left _ _ | exact List.sublist_append_right _ _)))⟩
      · have hb0p := of_decide_eq_false hb0
        refine CS.exit ?_
        refine thenC_x ?_
        refine loopQ_x ?_
        refine blockC_x ?_
        refine thenC_n ?_
        refine CS.seq ?_
        refine CS.seq ?_
        refine CS.region ?_
        have hcl := cntC_le s.cov (a * b)
        refine RS.q rfl (QO.move) ?_
        refine RS.q rfl (QO.move) ?_
        refine RS.q rfl (QO.lenS Try.underlying45 (by rfl)) ?_
        refine RS.q rfl (QO.lss (by rfl) (by rfl)) ?_
        refine RS.nil ?_
        refine thenC_n ?_
        refine CS.cond (by rfl) (fun hb6 => ?_) (fun hb6 => ?_)
        · have hb6p := of_decide_eq_true hb6
          refine CS.seq ?_
          refine CS.region ?_
          refine RS.q rfl (QO.build ty26 pl26 (by rfl)) ?_
          first | refine RS.storeB ty26 (by rfl) (by rfl) (by rfl) (by rfl) (by rfl) (by repeat (first | exact Upd.head | apply Upd.tail | exact Upd.app _ Upd.head)) (by rfl) ?_ | refine RS.storeP ty26 (by rfl) (by rfl) (by rfl) (by rfl) (by rfl) (by repeat (first | exact Upd.head | apply Upd.tail | exact Upd.app _ Upd.head)) (by rfl) ?_
          refine RS.q rfl (QO.assign) ?_
          refine RS.nil ?_
          refine thenC_n ?_
          refine CS.ret ?_
          refine thenC_r ?_
          refine retQ.mk (H' := []) (.inr rfl) (RVs.cellA ty26 (by rfl) (by repeat (first | exact List.Mem.head _ | refine List.Mem.tail _ ?_)) (by rfl) (RVs.tmp (by rfl) RVs.nil)) (List.nil_sublist _) ?_
          exact FrR.mkE (hjE.symm.trans (jE_end10 (by omega) (by omega))) (by decide)
        · have hb6p := of_decide_eq_false hb6
          refine CS.skip ?_
          refine thenC_n ?_
          refine CS.seq ?_
          refine CS.region ?_
          first | (refine RS.q rfl (QO.loadB ty26 (by rfl) (by repeat (first | exact List.Mem.head _ | refine List.Mem.tail _ ?_)) (by rfl)) ?_) | (refine RS.q rfl (QO.loadA ty26 (by rfl) (by repeat (first | exact List.Mem.head _ | refine List.Mem.tail _ ?_)) (by rfl) (by rfl)) ?_) | (refine RS.q rfl (QO.loadOA ty26 (by rfl) (by assumption) (by rfl)) ?_)
          first | refine RS.storeB ty26 (by rfl) (by rfl) (by rfl) (by rfl) (by rfl) (by repeat (first | exact Upd.head | apply Upd.tail | exact Upd.app _ Upd.head)) (by rfl) ?_ | refine RS.storeP ty26 (by rfl) (by rfl) (by rfl) (by rfl) (by rfl) (by repeat (first | exact Upd.head | apply Upd.tail | exact Upd.app _ Upd.head)) (by rfl) ?_
          refine RS.q rfl (QO.assign) ?_
          refine RS.nil ?_
          refine thenC_n ?_
          refine CS.ret ?_
          refine retQ.mk (H' := [⟨gm, 43, (jVals (jEnd X Y a fs js0) (a * b)).map flt⟩]) (.inr rfl) (RVs.cellA ty26 (by rfl) (by repeat (first | exact List.Mem.head _ | refine List.Mem.tail _ ?_)) (by rfl) (RVs.tmp (by rfl) RVs.nil)) (by rw [← out_end hjV (by omega) (by omega)]; exact (by repeat (first | exact List.Sublist.refl _ | exact List.nil_sublist _ | refine List.Sublist.cons_cons _ ?_ | refine List.Sublist.cons _ ?_ | exact Sbp.refl | exact Sbp.nil | refine Sbp.cons (by repeat (first | exact Rem.head | apply Rem.tail)) ?_ | exact Sbp.app | refine Sbp.skip ?_ | exact List.sublist_append_left _ _ | exact List.sublist_append_right _ _))) ?_
          exact FrR.mk0 (jVals_len ..) (by unfold maxLen; omega) (hjE.symm.trans (jE_end0 (by omega) (by omega)))

theorem join_ (X Y w_ h_ : Int) (A : Option Addr) (c : Nat) (fs : List FrS) (W : World) (hA : FsL W A fs) (hm : fs.length ≤ maxLen) : Fn_ Try.prog 6 #[.agg #[iv X, iv Y, iv w_, iv h_], .slice A fs.length c] W (fun v H => FrR (jErr X Y w_ h_ fs) X Y w_ h_ (jVals (jEnd X Y w_.toNat fs js0) (w_.toNat * h_.toNat)) v H) := by
  by_cases h : regErr X Y w_ h_ = 0
  · have hr := regErr_ok h
    have e : jErr X Y w_ h_ fs = jE X Y w_.toNat h_.toNat fs js0 := by unfold jErr; rw [if_neg (by rw [h]; decide)]
    have e1 : ((w_.toNat : Nat) : Int) = w_ := by omega
    have e2 : ((h_.toNat : Nat) : Int) = h_ := by omega
    have h9 := joinOk X Y w_.toNat h_.toNat A c fs W hA hm (by rw [e1, e2]; exact h)
    rw [e1, e2] at h9
    rw [e]; exact h9
  · exact joinBad X Y w_ h_ A c fs W hA hm h

end Go.Proofs.Ytdfbeigjinhgiaa

namespace Go.Proofs.Ytdfbeigjinhgiaa
open Go Go.RowKit
open Go.Maps (Keyed)
open Go.ChangeMaps (setBlock)
open Go.MapKept

/-- what a map's entries are -/
structure MapOK (P : Program) (k : TypeId) (es : Array MapEntry) (clk : Nat) : Prop where
  keys : ∀ e ∈ es.toList, ∃ l, keyOf P k e.key = some l
  st : Stamped es clk
section
open Classical
/-- what stands at a key -/
noncomputable def mg (es : Array MapEntry) (k : Value) : Option Value := (es.toList.find? (fun e => decide (e.key = k))).map (·.val)
theorem mg_none {es : Array MapEntry} {k : Value} (h : ∀ e ∈ es.toList, e.key ≠ k) : mg es k = none := by
  unfold mg
  rw [List.find?_eq_none.2 (fun e he => by simpa using h e he)]; rfl
theorem mg_none_iff {es : Array MapEntry} {k : Value} : mg es k = none ↔ ∀ e ∈ es.toList, e.key ≠ k := by
  constructor
  · intro h
    unfold mg at h
    simp only [Option.map_eq_none_iff, List.find?_eq_none, decide_eq_true_eq] at h
    exact h
  · exact mg_none
theorem mg_mem {es : Array MapEntry} {k v : Value} (h : mg es k = some v) : ∃ e ∈ es.toList, e.key = k ∧ e.val = v := by
  unfold mg at h
  simp only [Option.map_eq_some_iff] at h
  obtain ⟨e, h1, h2⟩ := h
  refine ⟨e, List.mem_of_find?_eq_some h1, ?_, h2⟩
  have := List.find?_some h1
  simpa using this
theorem mg_of {es : Array MapEntry} {e : MapEntry} (hn : es.toList.Pairwise (fun x y => x.key ≠ y.key)) (he : e ∈ es.toList) : mg es e.key = some e.val := by
  cases h : mg es e.key with
  | none => exact absurd rfl (mg_none_iff.1 h e he)
  | some v =>
    obtain ⟨e', h1, h2, h3⟩ := mg_mem h
    rw [← h3, entry_eq_of_key hn h1 he h2]
end
theorem MapOK.ne {P : Program} {k : TypeId} {es : Array MapEntry} {clk : Nat} (h : MapOK P k es clk) : es.toList.Pairwise (fun x y => x.key ≠ y.key) := ((stamped_iff es clk).1 h.st).2.2
theorem MapOK.nil (P : Program) (k : TypeId) (clk : Nat) : MapOK P k #[] clk := ⟨by simp, stamped_empty clk⟩
theorem mg_nil (k : Value) : mg #[] k = none := mg_none (by simp)
theorem MapOK.find {P : Program} {k : TypeId} {es : Array MapEntry} {clk : Nat} (h : MapOK P k es clk) (K : Keyed P k) {key : Value} {kl : Lit} (hkey : keyOf P k key = some kl) (w : World) :
    ((Instr.findKey k key es.toList).run P w = .ok none w ∧ mg es key = none ∧ ∀ e ∈ es.toList, e.key ≠ key) ∨
    ∃ j e, (Instr.findKey k key es.toList).run P w = .ok (some (j, e.val)) w ∧ es.toList[j]? = some e ∧ e.key = key ∧ mg es key = some e.val := by
  rcases K.find w hkey es.toList h.keys with ⟨h1, h2⟩ | ⟨j, e, h1, h2, h3⟩
  · exact .inl ⟨h1, mg_none h2, h2⟩
  · refine .inr ⟨j, e, h1, h2, h3, ?_⟩
    rw [← h3]
    exact mg_of h.ne (List.mem_of_getElem? h2)
/-- the map stands so in the world: of old, or as a block of the call's own -/
def MapAt (W : World) (H : HL) (g : Nat) (es : Array MapEntry) (clk : Nat) : Prop := W.heap[g]? = some (.map es clk) ∨ ∃ cs, (⟨g, .obj (.map es clk), cs⟩ : B) ∈ H
theorem MapAt.at_ {W w : World} {H : HL} {g : Nat} {es : Array MapEntry} {clk : Nat} (h : MapAt W H g es clk) (ho : Own W w H) : w.heap[g]? = some (.map es clk) := by
  rcases h with h | ⟨cs, h⟩
  · exact (ho.below.block g (Array.getElem?_eq_some_iff.1 h).1).trans h
  · exact (ho.blk _ h).2
/-- an object of the call's own, changed -/
theorem Own.setO {W w : World} {H H' : HL} {g : Nat} {o o' : Obj} {cs : List Value} (ho : Own W w H) (hr : Rem ⟨g, .obj o, cs⟩ H H') : Own W (setBlock w g o') (⟨g, .obj o', cs⟩ :: H') := by
  have hp := ho.perm hr.perm
  obtain ⟨h1, h2⟩ := hp.blk _ (List.mem_cons_self ..)
  have h2' : w.heap[g]? = some o := h2
  have hlt : g < w.heap.size := (Array.getElem?_eq_some_iff.1 h2').1
  have hsz : (setBlock w g o').heap.size = w.heap.size := by simp [setBlock]
  have hoth : ∀ k, k ≠ g → (setBlock w g o').heap[k]? = w.heap[k]? := fun k hk => by
    simp only [setBlock]
    exact Array.getElem?_setIfInBounds_ne (Ne.symm hk)
  refine ⟨⟨hp.below.os, hp.below.tape, hp.below.output, by rw [hsz]; exact hp.below.size, fun k hk => ?_⟩, fun b hb => ?_, ?_⟩
  · have h1' : W.heap.size ≤ g := h1
    rw [hoth k (by omega)]; exact hp.below.block k hk
  · rcases List.mem_cons.1 hb with rfl | hb
    · refine ⟨h1, ?_⟩
      show (setBlock w g o').heap[g]? = some o'
      simp [setBlock, hlt]
    · have h3 := hp.blk b (List.mem_cons_of_mem _ hb)
      refine ⟨h3.1, ?_⟩
      have hne : g ≠ b.g := (List.pairwise_cons.1 hp.ne).1 b hb
      exact (hoth b.g (Ne.symm hne)).trans h3.2
  · exact List.pairwise_cons.2 ⟨(List.pairwise_cons.1 hp.ne).1, (List.pairwise_cons.1 hp.ne).2⟩

def zeroChk (P : Program) (t : TypeId) : Option Value := (P.info? t).bind (·.zero)
theorem run_zeroV {P : Program} {t : TypeId} {v : Value} (h : zeroChk P t = some v) (w : World) : (zeroValue t).run P w = .ok v w := by
  unfold zeroChk at h
  cases hi : P.info? t with
  | none => rw [hi] at h; cases h
  | some i =>
    rw [hi] at h
    simp only [Option.bind_some] at h
    simp [zeroValue, typeInfo, hi, h]
/-- what a look-up hands back -/
def lookV (c : Bool) (z : Value) (o : Option Value) : Value := if c then .tuple #[o.getD z, .bool o.isSome] else o.getD z
section
variable {P : Program} {W : World} {n : Nat} {ops : Array Oper} {Q : Env → HL → Prop} {rest : List Oper} {e : Env} {H H' : HL}
variable {d : Tmp} {d' : Option Tmp} {ty t kt el : TypeId} {pos : String} {af : Array Edge} {x y y2 : Operand} {v z key : Value} {kl : Lit} {g : Nat} {es : Array MapEntry} {clk : Nat} {cs : List Value}
theorem QO.look {c : Bool} (K : Keyed P kt) (ht : P.underlying t = some (.map kt el)) (hz : zeroChk P el = some z) (hm : MapAt W H g es clk) (ok : MapOK P kt es clk)
    (hx : ev e x = .map (some g)) (hy : ev e y = key) (hkey : keyOf P kt key = some kl) : QO P W H e (.lookup t x y c) ty (lookV c z (mg es key)) := fun d pos af gd w ho => by
  have hb := hm.at_ ho
  rcases ok.find K hkey w with ⟨h1, h2, _⟩ | ⟨j, e0, h1, h2, h3, h4⟩
  · simp [execOp, hx, hy, Instr.lookup, run_underlying ht, MapKept.run_getObj_map hb, K.check w _ hkey, h1, run_zeroV hz, h2, lookV]
  · simp [execOp, hx, hy, Instr.lookup, run_underlying ht, MapKept.run_getObj_map hb, K.check w _ hkey, h1, h4, lookV]
theorem QO.lenM (ht : P.underlying t = some (.map kt el)) (hm : MapAt W H g es clk) (hx : ev e x = .map (some g)) : QO P W H e (.call ⟨.builtin .len, #[x], #[t]⟩) ty (.int .i64 es.size) := fun d pos af gd w ho => by
  have hb := hm.at_ ho
  simp [execOp, resolve, invoke, builtin, Builtin.len_, hx, run_underlying ht, MapKept.run_getObj_map hb, goInt]
theorem RS.makeMap {r : Option Operand} (hd : Nat.blt d n = true) (hr : r = none ∨ (∃ kt el, P.underlying t = some (.map kt el)) ∧ ∃ o i, r = some o ∧ ev e o = .int .i64 i)
    (k : ∀ g, RS P W n ops Q rest (put e d (.map (some g))) (⟨g, .obj (.map #[] 0), []⟩ :: H)) :
    RS P W n ops Q (⟨some d, .makeMap t r, ty, pos, af, none⟩ :: rest) e H := by
  refine RS.step (d := some d) hd fun w ho => ⟨.map (some w.heap.size), w.alloc (.map #[] 0), _, ?_, ho.allocO (.obj (.map #[] 0)) [], k _⟩
  rcases hr with rfl | ⟨⟨kt, el, ht⟩, o, i, rfl, hi⟩
  · simp [execOp, Instr.makeMap]
  · simp [execOp, Instr.makeMap, hi, run_underlying ht, asInt, asIntOf]
theorem RS.mapPut (K : Keyed P kt) (hd : dstOK n d' = true) (ht : P.underlying t = some (.map kt el)) (hr : Rem ⟨g, .obj (.map es clk), cs⟩ H H') (ok : MapOK P kt es clk)
    (hx : ev e x = .map (some g)) (hy : ev e y = key) (hkey : keyOf P kt key = some kl) (hy2 : ev e y2 = v)
    (k : ∀ es' clk', MapOK P kt es' clk' → (∀ k', k' ≠ key → mg es' k' = mg es k') → mg es' key = some v → es'.size = es.size + (if (mg es key).isSome then 0 else 1) →
      RS P W n ops Q rest (putO e d' undef) (⟨g, .obj (.map es' clk'), cs⟩ :: H')) :
    RS P W n ops Q (⟨d', .mapUpdate t x y y2, ty, pos, af, none⟩ :: rest) e H := by
  refine RS.skip hd fun w ho => ?_
  have hb : w.heap[g]? = some (.map es clk) := ((ho.perm hr.perm).blk _ (List.mem_cons_self ..)).2
  rcases ok.find K hkey w with ⟨h1, h2, h3⟩ | ⟨j, e0, h1, h2, h3, h4⟩
  · have ok' : MapOK P kt (es.push ⟨key, v, clk⟩) (clk + 1) := by
      refine ⟨fun e he => ?_, stamped_push ok.st h3⟩
      simp only [Array.toList_push, List.mem_append, List.mem_singleton] at he
      rcases he with he | rfl
      · exact ok.keys e he
      · exact ⟨kl, hkey⟩
    refine ⟨setBlock w g (.map (es.push ⟨key, v, clk⟩) (clk + 1)), _, ?_, ho.setO hr, k _ _ ok' (fun k' hk => ?_) ?_ ?_⟩
    · simp [execOp, hx, hy, hy2, Instr.mapUpdate, run_underlying ht, MapKept.run_getObj_map hb, K.check w false hkey, h1, MapKept.run_setObj_map _ hb, Result.andThen, setBlock]
    · unfold mg
      rw [Array.toList_push, List.find?_append]
      cases hf : List.find? (fun e : MapEntry => @decide (e.key = k') (Classical.propDecidable _)) es.toList with
      | some q => rfl
      | none =>
        simp only [Option.none_or, List.find?_cons, List.find?_nil]
        have : (@decide (key = k') (Classical.propDecidable _)) = false := by simp; exact fun h => hk h.symm
        rw [this]
    · exact mg_of (es := es.push ⟨key, v, clk⟩) (e := ⟨key, v, clk⟩) ok'.ne (by simp)
    · rw [h2]; simp
  · have hj : es[j]? = some e0 := by simpa using h2
    have hjl : j < es.toList.length := (List.getElem?_eq_some_iff.1 h2).1
    have hkeyf : ∀ e', es[j]? = some e' → ({ e' with key := key, val := v } : MapEntry).key = e'.key := fun e' he' => by rw [hj] at he'; cases he'; exact h3.symm
    have hlist : (es.modify j (fun e' => { e' with key := key, val := v })).toList = es.toList.set j { e0 with key := key, val := v } := by rw [Array.toList_modify, ChangeMaps.modify_eq_set _ _ _ _ h2]
    have ok' : MapOK P kt (es.modify j (fun e' => { e' with key := key, val := v })) clk := by
      refine ⟨fun e he => ?_, stamped_modify ok.st _ _ (fun _ _ => rfl) (fun e' _ he' => hkeyf e' he')⟩
      rw [hlist] at he
      rcases List.mem_or_eq_of_mem_set he with he | rfl
      · exact ok.keys e he
      · exact ⟨kl, hkey⟩
    refine ⟨setBlock w g (.map (es.modify j (fun e' => { e' with key := key, val := v })) clk), _, ?_, ho.setO hr, k _ _ ok' (fun k' hk => ?_) ?_ ?_⟩
    · simp [execOp, hx, hy, hy2, Instr.mapUpdate, run_underlying ht, MapKept.run_getObj_map hb, K.check w false hkey, h1, hj, h3, K.stays w hkey, MapKept.run_setObj_map _ hb, Result.andThen, setBlock]
    · cases hf : mg es k' with
      | none =>
        refine mg_none fun e he => ?_
        rw [hlist] at he
        rcases List.mem_or_eq_of_mem_set he with he | rfl
        · exact mg_none_iff.1 hf e he
        · exact fun h => hk h.symm
      | some u =>
        obtain ⟨e1, m1, m2, m3⟩ := mg_mem hf
        have : e1 ∈ (es.modify j (fun e' => { e' with key := key, val := v })).toList := by
          rw [hlist]
          obtain ⟨i, hi, hie⟩ := List.getElem_of_mem m1
          have hij : j ≠ i := fun hh => by
            subst hh
            have h5 := List.getElem?_eq_getElem hi
            rw [h2, hie] at h5
            have h6 : e0 = e1 := Option.some.inj h5
            exact hk (by rw [← m2, ← h6, h3])
          exact List.mem_iff_getElem.2 ⟨i, by simpa using hi, by rw [List.getElem_set_ne hij]; exact hie⟩
        rw [← m2, ← m3]
        exact mg_of ok'.ne this
    · exact mg_of (e := { e0 with key := key, val := v }) ok'.ne (by rw [hlist]; exact List.mem_iff_getElem.2 ⟨j, by simpa using hjl, by simp⟩)
    · rw [h4]; simp
/-! ranging -/
/-- an iterator that has handed out the entries vs -/
structure ItOK (es : Array MapEntry) (seen : Array Nat) (vs : List MapEntry) : Prop where
  sub : ∀ e ∈ vs, e ∈ es.toList
  ne : vs.Pairwise (fun x y => x.key ≠ y.key)
  seen : seen.toList = vs.map (·.born)
theorem ItOK.nil (es : Array MapEntry) : ItOK es #[] [] := ⟨by simp, .nil, rfl⟩
end
end Go.Proofs.Ytdfbeigjinhgiaa
