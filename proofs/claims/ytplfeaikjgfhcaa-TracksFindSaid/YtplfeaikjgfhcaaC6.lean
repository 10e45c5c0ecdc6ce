/-
  Contracts: ChangesAreBounded. Conditions: as each theorem says.
-/
import Derived.Test.YtplfeaikjgfhcaaC5
namespace Go.Proofs.Ytplfeaikjgfhcaa
open Go Go.Proofs Go.RowKit

theorem ty181 : tyChk Try.prog 181 = some ([.int .i64 0, .int .i64 0, .int .i64 0, .int .i64 0, .slice none 0 0, .int .i64 0, .int .i64 0, .int .i64 0, .int .i64 0, .slice none 0 0], true, 112) := by kernel_rfl
theorem pl23 : places Try.prog 23 = some #[(0, 1), (1, 1), (2, 1), (3, 1)] := by kernel_rfl
theorem ok111 : callOK Try.prog 111 = true := by kernel_rfl
theorem ok112 : callOK Try.prog 112 = true := by kernel_rfl

set_option maxRecDepth 100000 in
theorem bitsOf (x : Nat) (W : World) : Fn_ Try.prog 112 #[flt x] W (fun v H => v = .int .u32 (cl x : Nat) ∧ H = []) := by
  refine Fn_.intro Try.func112 rfl rfl (by rfl) ?_
  refine CS.seq ?_
  refine CS.region ?_
  refine RS.q rfl (QO.assign) ?_
  refine RS.nil ?_
  refine thenC_n ?_
  refine CS.seq ?_
  refine CS.region ?_
  refine RS.q rfl (QO.move) ?_
  refine RS.call rfl (by rfl) ok100 (by rfl) (fun w ho => fix _ _) ?_
  rintro _ _ ⟨rfl, rfl⟩
  refine RS.q rfl (QO.ext (by rfl) (ext115 _)) ?_
  refine RS.q rfl (QO.assign) ?_
  refine RS.nil ?_
  refine thenC_n ?_
  refine CS.ret ?_
  refine retQ.mk (H' := []) (.inr rfl) (RVs.tmp (by rfl) RVs.nil) (List.nil_sublist _) ?_
  exact ⟨rfl, rfl⟩

set_option maxRecDepth 100000 in
theorem bit (x y : Nat) (W : World) : Fn_ Try.prog 24 #[flt x, flt y] W (fun v H => v = .bool (((cl x : Nat) : Int) == (cl y : Nat)) ∧ H = []) := by
  refine Fn_.intro Try.func24 rfl rfl (by rfl) ?_
  refine CS.seq ?_
  refine CS.region ?_
  refine RS.q rfl (QO.assign) ?_
  refine RS.nil ?_
  refine thenC_n ?_
  refine CS.seq ?_
  refine CS.region ?_
  refine RS.q rfl (QO.move) ?_
  refine RS.call rfl (by rfl) ok112 (by rfl) (fun w ho => bitsOf _ _) ?_
  rintro _ _ ⟨rfl, rfl⟩
  refine RS.q rfl (QO.move) ?_
  refine RS.call rfl (by rfl) ok112 (by rfl) (fun w ho => bitsOf _ _) ?_
  rintro _ _ ⟨rfl, rfl⟩
  refine RS.q rfl (QO.eql (by rfl) (by rfl)) ?_
  refine RS.q rfl (QO.assign) ?_
  refine RS.nil ?_
  refine thenC_n ?_
  refine CS.ret ?_
  refine retQ.mk (H' := []) (.inr rfl) (RVs.tmp (by rfl) RVs.nil) (List.nil_sublist _) ?_
  exact ⟨rfl, rfl⟩

/-- is the first region inside the second -/
def insB (ax ay aw ah bx bz bw bh : Int) : Bool := decide (bx ≤ ax ∧ bz ≤ ay ∧ ax ≤ bx + bw - aw ∧ ay ≤ bz + bh - ah)
def smallI (x : Int) : Prop := -4611686018427387904 ≤ x ∧ x ≤ 2305843009213693952

set_option maxRecDepth 100000 in
theorem rinside (ax ay aw ah bx bz bw bh : Int) (W : World) (h1 : -1000000000 ≤ bx ∧ bx ≤ 1000000000) (h2 : -1000000000 ≤ bz ∧ bz ≤ 1000000000) (h3 : -1000000000 ≤ bw ∧ bw ≤ 1000000000) (h4 : -1000000000 ≤ bh ∧ bh ≤ 1000000000) (h5 : -1000000000 ≤ aw ∧ aw ≤ 1000000000) (h6 : -1000000000 ≤ ah ∧ ah ≤ 1000000000) : Fn_ Try.prog 25 #[.agg #[iv ax, iv ay, iv aw, iv ah], .agg #[iv bx, iv bz, iv bw, iv bh]] W (fun v H => v = .bool (insB ax ay aw ah bx bz bw bh) ∧ H = []) := by
  refine Fn_.intro Try.func25 rfl rfl (by rfl) ?_
  refine CS.seq ?_
  refine CS.region ?_
  refine RS.box rfl (by rfl) (by rfl) ?_
  intro g2
  refine RS.box rfl (by rfl) (by rfl) ?_
  intro g3
  refine RS.q rfl (QO.assign) ?_
  refine RS.nil ?_
  refine thenC_n ?_
  refine CS.seq ?_
  refine CS.region ?_
  refine RS.q rfl (QO.fieldAddr fo23_0 (by rfl)) ?_
  first | (refine RS.q rfl (QO.load ty3 (by rfl) (by repeat (first | exact List.Mem.head _ | refine List.Mem.tail _ ?_)) (by rfl)) ?_) | (refine RS.q rfl (QO.loadO ty3 (by rfl) (by assumption)) ?_) | (refine RS.q rfl (QO.load ty3 (by rfl) (by repeat (first | exact List.Mem.head _ | refine List.Mem.tail _ ?_)) (by assumption)) ?_)
  refine RS.q rfl (QO.fieldAddr fo23_0 (by rfl)) ?_
  first | (refine RS.q rfl (QO.load ty3 (by rfl) (by repeat (first | exact List.Mem.head _ | refine List.Mem.tail _ ?_)) (by rfl)) ?_) | (refine RS.q rfl (QO.loadO ty3 (by rfl) (by assumption)) ?_) | (refine RS.q rfl (QO.load ty3 (by rfl) (by repeat (first | exact List.Mem.head _ | refine List.Mem.tail _ ?_)) (by assumption)) ?_)
  refine RS.q rfl (QO.geq (by rfl) (by rfl)) ?_
  refine RS.q rfl (QO.move) ?_
  refine RS.split (dj := 10) (by rfl) (fun hb0 => ?_) (fun hb0 => ?_)
  · have hb0p := of_decide_eq_true hb0
    refine RS.on (dj := 10) rfl (congrArg Value.bool hb0) ?_
    refine RS.q rfl (QO.fieldAddr fo23_1 (by rfl)) ?_
    refine RS.on (dj := 10) rfl (congrArg Value.bool hb0) ?_
    first | (refine RS.q rfl (QO.load ty3 (by rfl) (by repeat (first | exact List.Mem.head _ | refine List.Mem.tail _ ?_)) (by rfl)) ?_) | (refine RS.q rfl (QO.loadO ty3 (by rfl) (by assumption)) ?_) | (refine RS.q rfl (QO.load ty3 (by rfl) (by repeat (first | exact List.Mem.head _ | refine List.Mem.tail _ ?_)) (by assumption)) ?_)
    refine RS.on (dj := 10) rfl (congrArg Value.bool hb0) ?_
    refine RS.q rfl (QO.fieldAddr fo23_1 (by rfl)) ?_
    refine RS.on (dj := 10) rfl (congrArg Value.bool hb0) ?_
    first | (refine RS.q rfl (QO.load ty3 (by rfl) (by repeat (first | exact List.Mem.head _ | refine List.Mem.tail _ ?_)) (by rfl)) ?_) | (refine RS.q rfl (QO.loadO ty3 (by rfl) (by assumption)) ?_) | (refine RS.q rfl (QO.load ty3 (by rfl) (by repeat (first | exact List.Mem.head _ | refine List.Mem.tail _ ?_)) (by assumption)) ?_)
    refine RS.on (dj := 10) rfl (congrArg Value.bool hb0) ?_
    refine RS.q rfl (QO.geq (by rfl) (by rfl)) ?_
    refine RS.q rfl (QO.pickT (by rfl) hb0 (by rfl)) ?_
    refine RS.q rfl (QO.move) ?_
    refine RS.split (dj := 17) (by rfl) (fun hb1 => ?_) (fun hb1 => ?_)
    · have hb1p := of_decide_eq_true hb1
      refine RS.on (dj := 17) rfl (congrArg Value.bool hb1) ?_
      refine RS.q rfl (QO.fieldAddr fo23_0 (by rfl)) ?_
      refine RS.on (dj := 17) rfl (congrArg Value.bool hb1) ?_
      first | (refine RS.q rfl (QO.load ty3 (by rfl) (by repeat (first | exact List.Mem.head _ | refine List.Mem.tail _ ?_)) (by rfl)) ?_) | (refine RS.q rfl (QO.loadO ty3 (by rfl) (by assumption)) ?_) | (refine RS.q rfl (QO.load ty3 (by rfl) (by repeat (first | exact List.Mem.head _ | refine List.Mem.tail _ ?_)) (by assumption)) ?_)
      refine RS.on (dj := 17) rfl (congrArg Value.bool hb1) ?_
      refine RS.q rfl (QO.fieldAddr fo23_0 (by rfl)) ?_
      refine RS.on (dj := 17) rfl (congrArg Value.bool hb1) ?_
      first | (refine RS.q rfl (QO.load ty3 (by rfl) (by repeat (first | exact List.Mem.head _ | refine List.Mem.tail _ ?_)) (by rfl)) ?_) | (refine RS.q rfl (QO.loadO ty3 (by rfl) (by assumption)) ?_) | (refine RS.q rfl (QO.load ty3 (by rfl) (by repeat (first | exact List.Mem.head _ | refine List.Mem.tail _ ?_)) (by assumption)) ?_)
      refine RS.on (dj := 17) rfl (congrArg Value.bool hb1) ?_
      refine RS.q rfl (QO.fieldAddr fo23_2 (by rfl)) ?_
      refine RS.on (dj := 17) rfl (congrArg Value.bool hb1) ?_
      first | (refine RS.q rfl (QO.load ty3 (by rfl) (by repeat (first | exact List.Mem.head _ | refine List.Mem.tail _ ?_)) (by rfl)) ?_) | (refine RS.q rfl (QO.loadO ty3 (by rfl) (by assumption)) ?_) | (refine RS.q rfl (QO.load ty3 (by rfl) (by repeat (first | exact List.Mem.head _ | refine List.Mem.tail _ ?_)) (by assumption)) ?_)
      refine RS.on (dj := 17) rfl (congrArg Value.bool hb1) ?_
      first | (refine RS.q rfl (QO.add (by rfl) (by rfl) (by omega) (by omega)) ?_) | (refine RS.q rfl (QO.ibin (by rfl) (by rfl) trivial) ?_)
      refine RS.on (dj := 17) rfl (congrArg Value.bool hb1) ?_
      refine RS.q rfl (QO.fieldAddr fo23_2 (by rfl)) ?_
      refine RS.on (dj := 17) rfl (congrArg Value.bool hb1) ?_
      first | (refine RS.q rfl (QO.load ty3 (by rfl) (by repeat (first | exact List.Mem.head _ | refine List.Mem.tail _ ?_)) (by rfl)) ?_) | (refine RS.q rfl (QO.loadO ty3 (by rfl) (by assumption)) ?_) | (refine RS.q rfl (QO.load ty3 (by rfl) (by repeat (first | exact List.Mem.head _ | refine List.Mem.tail _ ?_)) (by assumption)) ?_)
      refine RS.on (dj := 17) rfl (congrArg Value.bool hb1) ?_
      first | (refine RS.q rfl (QO.sub (by rfl) (by rfl) (by omega) (by omega)) ?_) | (refine RS.q rfl (QO.ibin (by rfl) (by rfl) trivial) ?_)
      refine RS.on (dj := 17) rfl (congrArg Value.bool hb1) ?_
      refine RS.q rfl (QO.leq (by rfl) (by rfl)) ?_
      refine RS.q rfl (QO.pickT (by rfl) hb1 (by rfl)) ?_
      refine RS.q rfl (QO.move) ?_
      refine RS.split (dj := 30) (by rfl) (fun hb2 => ?_) (fun hb2 => ?_)
      · have hb2p := of_decide_eq_true hb2
        refine RS.on (dj := 30) rfl (congrArg Value.bool hb2) ?_
        refine RS.q rfl (QO.fieldAddr fo23_1 (by rfl)) ?_
        refine RS.on (dj := 30) rfl (congrArg Value.bool hb2) ?_
        first | (refine RS.q rfl (QO.load ty3 (by rfl) (by repeat (first | exact List.Mem.head _ | refine List.Mem.tail _ ?_)) (by rfl)) ?_) | (refine RS.q rfl (QO.loadO ty3 (by rfl) (by assumption)) ?_) | (refine RS.q rfl (QO.load ty3 (by rfl) (by repeat (first | exact List.Mem.head _ | refine List.Mem.tail _ ?_)) (by assumption)) ?_)
        refine RS.on (dj := 30) rfl (congrArg Value.bool hb2) ?_
        refine RS.q rfl (QO.fieldAddr fo23_1 (by rfl)) ?_
        refine RS.on (dj := 30) rfl (congrArg Value.bool hb2) ?_
        first | (refine RS.q rfl (QO.load ty3 (by rfl) (by repeat (first | exact List.Mem.head _ | refine List.Mem.tail _ ?_)) (by rfl)) ?_) | (refine RS.q rfl (QO.loadO ty3 (by rfl) (by assumption)) ?_) | (refine RS.q rfl (QO.load ty3 (by rfl) (by repeat (first | exact List.Mem.head _ | refine List.Mem.tail _ ?_)) (by assumption)) ?_)
        refine RS.on (dj := 30) rfl (congrArg Value.bool hb2) ?_
        refine RS.q rfl (QO.fieldAddr fo23_3 (by rfl)) ?_
        refine RS.on (dj := 30) rfl (congrArg Value.bool hb2) ?_
        first | (refine RS.q rfl (QO.load ty3 (by rfl) (by repeat (first | exact List.Mem.head _ | refine List.Mem.tail _ ?_)) (by rfl)) ?_) | (refine RS.q rfl (QO.loadO ty3 (by rfl) (by assumption)) ?_) | (refine RS.q rfl (QO.load ty3 (by rfl) (by repeat (first | exact List.Mem.head _ | refine List.Mem.tail _ ?_)) (by assumption)) ?_)
        refine RS.on (dj := 30) rfl (congrArg Value.bool hb2) ?_
        first | (refine RS.q rfl (QO.add (by rfl) (by rfl) (by omega) (by omega)) ?_) | (refine RS.q rfl (QO.ibin (by rfl) (by rfl) trivial) ?_)
        refine RS.on (dj := 30) rfl (congrArg Value.bool hb2) ?_
        refine RS.q rfl (QO.fieldAddr fo23_3 (by rfl)) ?_
        refine RS.on (dj := 30) rfl (congrArg Value.bool hb2) ?_
        first | (refine RS.q rfl (QO.load ty3 (by rfl) (by repeat (first | exact List.Mem.head _ | refine List.Mem.tail _ ?_)) (by rfl)) ?_) | (refine RS.q rfl (QO.loadO ty3 (by rfl) (by assumption)) ?_) | (refine RS.q rfl (QO.load ty3 (by rfl) (by repeat (first | exact List.Mem.head _ | refine List.Mem.tail _ ?_)) (by assumption)) ?_)
        refine RS.on (dj := 30) rfl (congrArg Value.bool hb2) ?_
        first | (refine RS.q rfl (QO.sub (by rfl) (by rfl) (by omega) (by omega)) ?_) | (refine RS.q rfl (QO.ibin (by rfl) (by rfl) trivial) ?_)
        refine RS.on (dj := 30) rfl (congrArg Value.bool hb2) ?_
        refine RS.q rfl (QO.leq (by rfl) (by rfl)) ?_
        refine RS.q rfl (QO.pickT (by rfl) hb2 (by rfl)) ?_
        refine RS.q rfl (QO.assign) ?_
        refine RS.nil ?_
        refine thenC_n ?_
        refine CS.ret ?_
        refine retQ.mk (H' := []) (.inr rfl) (RVs.tmp (by rfl) RVs.nil) (List.nil_sublist _) ?_
        exact ⟨congrArg Value.bool (by unfold insB; first | exact (decide_eq_false (by omega)).symm | exact decide_eq_decide.2 (by omega)), rfl⟩
      · have hb2p := of_decide_eq_false hb2
        refine RS.off (dj := 30) rfl (.inl (congrArg Value.bool hb2)) (fun _ => rfl) rfl ?_
        refine RS.off (dj := 30) rfl (.inl (congrArg Value.bool hb2)) (fun _ => rfl) rfl ?_
        refine RS.off (dj := 30) rfl (.inl (congrArg Value.bool hb2)) (fun _ => rfl) rfl ?_
        refine RS.off (dj := 30) rfl (.inl (congrArg Value.bool hb2)) (fun _ => rfl) rfl ?_
        refine RS.off (dj := 30) rfl (.inl (congrArg Value.bool hb2)) (fun _ => rfl) rfl ?_
        refine RS.off (dj := 30) rfl (.inl (congrArg Value.bool hb2)) (fun _ => rfl) rfl ?_
        refine RS.off (dj := 30) rfl (.inl (congrArg Value.bool hb2)) (fun _ => rfl) rfl ?_
        refine RS.off (dj := 30) rfl (.inl (congrArg Value.bool hb2)) (fun _ => rfl) rfl ?_
        refine RS.off (dj := 30) rfl (.inl (congrArg Value.bool hb2)) (fun _ => rfl) rfl ?_
        refine RS.off (dj := 30) rfl (.inl (congrArg Value.bool hb2)) (fun _ => rfl) rfl ?_
        refine RS.off (dj := 30) rfl (.inl (congrArg Value.bool hb2)) (fun _ => rfl) rfl ?_
        refine RS.q rfl (QO.pickF (by rfl) hb2 (by rfl)) ?_
        refine RS.q rfl (QO.assign) ?_
        refine RS.nil ?_
        refine thenC_n ?_
        refine CS.ret ?_
        refine retQ.mk (H' := []) (.inr rfl) (RVs.tmp (by rfl) RVs.nil) (List.nil_sublist _) ?_
        exact ⟨congrArg Value.bool (by unfold insB; first | exact (decide_eq_false (by omega)).symm | exact decide_eq_decide.2 (by omega)), rfl⟩
    · have hb1p := of_decide_eq_false hb1
      refine RS.off (dj := 17) rfl (.inl (congrArg Value.bool hb1)) (fun _ => rfl) rfl ?_
      refine RS.off (dj := 17) rfl (.inl (congrArg Value.bool hb1)) (fun _ => rfl) rfl ?_
      refine RS.off (dj := 17) rfl (.inl (congrArg Value.bool hb1)) (fun _ => rfl) rfl ?_
      refine RS.off (dj := 17) rfl (.inl (congrArg Value.bool hb1)) (fun _ => rfl) rfl ?_
      refine RS.off (dj := 17) rfl (.inl (congrArg Value.bool hb1)) (fun _ => rfl) rfl ?_
      refine RS.off (dj := 17) rfl (.inl (congrArg Value.bool hb1)) (fun _ => rfl) rfl ?_
      refine RS.off (dj := 17) rfl (.inl (congrArg Value.bool hb1)) (fun _ => rfl) rfl ?_
      refine RS.off (dj := 17) rfl (.inl (congrArg Value.bool hb1)) (fun _ => rfl) rfl ?_
      refine RS.off (dj := 17) rfl (.inl (congrArg Value.bool hb1)) (fun _ => rfl) rfl ?_
      refine RS.off (dj := 17) rfl (.inl (congrArg Value.bool hb1)) (fun _ => rfl) rfl ?_
      refine RS.off (dj := 17) rfl (.inl (congrArg Value.bool hb1)) (fun _ => rfl) rfl ?_
      refine RS.q rfl (QO.pickF (by rfl) hb1 (by rfl)) ?_
      refine RS.q rfl (QO.move) ?_
      refine RS.off (dj := 30) rfl (.inl (congrArg Value.bool rfl)) (fun _ => rfl) rfl ?_
      refine RS.off (dj := 30) rfl (.inl (congrArg Value.bool rfl)) (fun _ => rfl) rfl ?_
      refine RS.off (dj := 30) rfl (.inl (congrArg Value.bool rfl)) (fun _ => rfl) rfl ?_
      refine RS.off (dj := 30) rfl (.inl (congrArg Value.bool rfl)) (fun _ => rfl) rfl ?_
      refine RS.off (dj := 30) rfl (.inl (congrArg Value.bool rfl)) (fun _ => rfl) rfl ?_
      refine RS.off (dj := 30) rfl (.inl (congrArg Value.bool rfl)) (fun _ => rfl) rfl ?_
      refine RS.off (dj := 30) rfl (.inl (congrArg Value.bool rfl)) (fun _ => rfl) rfl ?_
      refine RS.off (dj := 30) rfl (.inl (congrArg Value.bool rfl)) (fun _ => rfl) rfl ?_
      refine RS.off (dj := 30) rfl (.inl (congrArg Value.bool rfl)) (fun _ => rfl) rfl ?_
      refine RS.off (dj := 30) rfl (.inl (congrArg Value.bool rfl)) (fun _ => rfl) rfl ?_
      refine RS.off (dj := 30) rfl (.inl (congrArg Value.bool rfl)) (fun _ => rfl) rfl ?_
      refine RS.q rfl (QO.pickF (by rfl) rfl (by rfl)) ?_
      refine RS.q rfl (QO.assign) ?_
      refine RS.nil ?_
      refine thenC_n ?_
      refine CS.ret ?_
      refine retQ.mk (H' := []) (.inr rfl) (RVs.tmp (by rfl) RVs.nil) (List.nil_sublist _) ?_
      exact ⟨congrArg Value.bool (by unfold insB; first | exact (decide_eq_false (by omega)).symm | exact decide_eq_decide.2 (by omega)), rfl⟩
  · have hb0p := of_decide_eq_false hb0
    refine RS.off (dj := 10) rfl (.inl (congrArg Value.bool hb0)) (fun _ => rfl) rfl ?_
    refine RS.off (dj := 10) rfl (.inl (congrArg Value.bool hb0)) (fun _ => rfl) rfl ?_
    refine RS.off (dj := 10) rfl (.inl (congrArg Value.bool hb0)) (fun _ => rfl) rfl ?_
    refine RS.off (dj := 10) rfl (.inl (congrArg Value.bool hb0)) (fun _ => rfl) rfl ?_
    refine RS.off (dj := 10) rfl (.inl (congrArg Value.bool hb0)) (fun _ => rfl) rfl ?_
    refine RS.q rfl (QO.pickF (by rfl) hb0 (by rfl)) ?_
    refine RS.q rfl (QO.move) ?_
    refine RS.off (dj := 17) rfl (.inl (congrArg Value.bool rfl)) (fun _ => rfl) rfl ?_
    refine RS.off (dj := 17) rfl (.inl (congrArg Value.bool rfl)) (fun _ => rfl) rfl ?_
    refine RS.off (dj := 17) rfl (.inl (congrArg Value.bool rfl)) (fun _ => rfl) rfl ?_
    refine RS.off (dj := 17) rfl (.inl (congrArg Value.bool rfl)) (fun _ => rfl) rfl ?_
    refine RS.off (dj := 17) rfl (.inl (congrArg Value.bool rfl)) (fun _ => rfl) rfl ?_
    refine RS.off (dj := 17) rfl (.inl (congrArg Value.bool rfl)) (fun _ => rfl) rfl ?_
    refine RS.off (dj := 17) rfl (.inl (congrArg Value.bool rfl)) (fun _ => rfl) rfl ?_
    refine RS.off (dj := 17) rfl (.inl (congrArg Value.bool rfl)) (fun _ => rfl) rfl ?_
    refine RS.off (dj := 17) rfl (.inl (congrArg Value.bool rfl)) (fun _ => rfl) rfl ?_
    refine RS.off (dj := 17) rfl (.inl (congrArg Value.bool rfl)) (fun _ => rfl) rfl ?_
    refine RS.off (dj := 17) rfl (.inl (congrArg Value.bool rfl)) (fun _ => rfl) rfl ?_
    refine RS.q rfl (QO.pickF (by rfl) rfl (by rfl)) ?_
    refine RS.q rfl (QO.move) ?_
    refine RS.off (dj := 30) rfl (.inl (congrArg Value.bool rfl)) (fun _ => rfl) rfl ?_
    refine RS.off (dj := 30) rfl (.inl (congrArg Value.bool rfl)) (fun _ => rfl) rfl ?_
    refine RS.off (dj := 30) rfl (.inl (congrArg Value.bool rfl)) (fun _ => rfl) rfl ?_
    refine RS.off (dj := 30) rfl (.inl (congrArg Value.bool rfl)) (fun _ => rfl) rfl ?_
    refine RS.off (dj := 30) rfl (.inl (congrArg Value.bool rfl)) (fun _ => rfl) rfl ?_
    refine RS.off (dj := 30) rfl (.inl (congrArg Value.bool rfl)) (fun _ => rfl) rfl ?_
    refine RS.off (dj := 30) rfl (.inl (congrArg Value.bool rfl)) (fun _ => rfl) rfl ?_
    refine RS.off (dj := 30) rfl (.inl (congrArg Value.bool rfl)) (fun _ => rfl) rfl ?_
    refine RS.off (dj := 30) rfl (.inl (congrArg Value.bool rfl)) (fun _ => rfl) rfl ?_
    refine RS.off (dj := 30) rfl (.inl (congrArg Value.bool rfl)) (fun _ => rfl) rfl ?_
    refine RS.off (dj := 30) rfl (.inl (congrArg Value.bool rfl)) (fun _ => rfl) rfl ?_
    refine RS.q rfl (QO.pickF (by rfl) rfl (by rfl)) ?_
    refine RS.q rfl (QO.assign) ?_
    refine RS.nil ?_
    refine thenC_n ?_
    refine CS.ret ?_
    refine retQ.mk (H' := []) (.inr rfl) (RVs.tmp (by rfl) RVs.nil) (List.nil_sublist _) ?_
    exact ⟨congrArg Value.bool (by unfold insB; first | exact (decide_eq_false (by omega)).symm | exact decide_eq_decide.2 (by omega)), rfl⟩

theorem two_at (x y wi he : Int) (A A' : Option Addr) (n n' c c' k : Nat) (h : k < 2) : (([iv x, iv y, iv wi, iv he, Value.slice A n c, iv x, iv y, iv wi, iv he, Value.slice A' n' c'] : List Value).drop (((k : Nat) : Int).toNat * 5)).take 5 =
    [iv x, iv y, iv wi, iv he, .slice (if k = 0 then A else A') (if k = 0 then n else n') (if k = 0 then c else c')] := by
  match k, h with
  | 0, _ => rfl
  | 1, _ => rfl

set_option maxRecDepth 100000 in
theorem checkTwo (x y wi he : Int) (A A' : Option Addr) (n n' c c' : Nat) (W : World) (h1 : frErr x y wi he n = 0) (h2 : frErr x y wi he n' = 0) : Fn_ Try.prog 111 #[.agg #[iv x, iv y, iv wi, iv he, .slice A n c], .agg #[iv x, iv y, iv wi, iv he, .slice A' n' c']] W (fun v H => v = iv 0 ∧ H = []) := by
  refine Fn_.intro Try.func111 rfl rfl (by rfl) ?_
  refine CS.seq ?_
  refine CS.region ?_
  refine RS.box rfl (by rfl) (by rfl) ?_
  intro g2
  refine RS.box rfl (by rfl) (by rfl) ?_
  intro g3
  refine RS.q rfl (QO.assign) ?_
  refine RS.nil ?_
  refine thenC_n ?_
  refine CS.seq ?_
  refine CS.seq ?_
  refine CS.region ?_
  first | (refine RS.q rfl (QO.loadB ty26 (by rfl) (by repeat (first | exact List.Mem.head _ | refine List.Mem.tail _ ?_)) (by rfl)) ?_) | (refine RS.q rfl (QO.loadA ty26 (by rfl) (by repeat (first | exact List.Mem.head _ | refine List.Mem.tail _ ?_)) (by rfl) (by rfl)) ?_) | (refine RS.q rfl (QO.loadOA ty26 (by rfl) (by assumption) (by rfl)) ?_)
  first | (refine RS.q rfl (QO.loadB ty26 (by rfl) (by repeat (first | exact List.Mem.head _ | refine List.Mem.tail _ ?_)) (by rfl)) ?_) | (refine RS.q rfl (QO.loadA ty26 (by rfl) (by repeat (first | exact List.Mem.head _ | refine List.Mem.tail _ ?_)) (by rfl) (by rfl)) ?_) | (refine RS.q rfl (QO.loadOA ty26 (by rfl) (by assumption) (by rfl)) ?_)
  refine RS.q rfl (QO.buildA Try.underlying181 ty181 ty26 (by rfl)) ?_
  refine RS.q rfl (QO.move) ?_
  refine RS.nil ?_
  refine thenC_n ?_
  refine CS.block ?_
  refine CS.loop (X := Nat) (4 :: 6 :: 7 :: 11 :: 12 :: 13 :: 14 :: 15 :: 16 :: 17 :: 18 :: 19 :: []) (fun k => [(11, iv (k : Int))]) (fun k => [⟨g3, 26, [iv x, iv y, iv wi, iv he, .slice A' n' c']⟩, ⟨g2, 26, [iv x, iv y, iv wi, iv he, .slice A n c]⟩]) (fun k => k ≤ 2) (fun k => 2 - k) 0 (by omega) ?_ ?_ ?_
  · exact (by repeat (first | exact kn_nil | refine kn_cons (by rfl) ?_))
  · exact (by repeat (first | exact List.Sublist.refl _ | exact List.nil_sublist _ | refine List.Sublist.cons_cons _ ?_ | refine List.Sublist.cons _ ?_ | exact Sbp.refl | exact Sbp.nil | refine Sbp.cons (by repeat (first | exact Rem.head | apply Rem.tail)) ?_ | exact Sbp.app | refine Sbp.skip ?_))
  · intro k gj2 hz
    refine CS.seq ?_
    refine CS.region ?_
    refine RS.q rfl (QO.lss (by rfl) (by rfl)) ?_
    refine RS.nil ?_
    refine thenC_n ?_
    refine CS.seq ?_
    refine CS.cond (by rfl) (fun hb0 => ?_) (fun hb0 => ?_)
    · have hb0p := of_decide_eq_true hb0
      refine CS.skip ?_
      refine thenC_n ?_
      refine CS.seq ?_
      refine CS.block ?_
      refine CS.seq ?_
      refine CS.region ?_
      refine RS.q rfl (QO.indexA Try.underlying181 ty26 (by rfl) (by rfl) (by omega) (by omega) (two_at x y wi he A A' n n' c c' k (by omega))) ?_
      refine RS.alloc rfl ty26 ?_
      intro g6
      first | refine RS.storeB ty26 (by rfl) (by rfl) (by rfl) (by rfl) (by rfl) (by repeat (first | exact Upd.head | apply Upd.tail)) (by rfl) ?_ | refine RS.storeP ty26 (by rfl) (by rfl) (by rfl) (by rfl) (by rfl) (by repeat (first | exact Upd.head | apply Upd.tail)) (by rfl) ?_
      refine RS.nil ?_
      refine thenC_n ?_
      refine CS.seq ?_
      refine CS.region ?_
      first | (refine RS.q rfl (QO.loadB ty26 (by rfl) (by repeat (first | exact List.Mem.head _ | refine List.Mem.tail _ ?_)) (by rfl)) ?_) | (refine RS.q rfl (QO.loadA ty26 (by rfl) (by repeat (first | exact List.Mem.head _ | refine List.Mem.tail _ ?_)) (by rfl) (by rfl)) ?_) | (refine RS.q rfl (QO.loadOA ty26 (by rfl) (by assumption) (by rfl)) ?_)
      refine RS.call rfl (by rfl) ok116 (by rfl) (fun w ho => check _ _ _ _ _ _ _ _) ?_
      rintro _ _ ⟨rfl, rfl⟩
      refine RS.q rfl (QO.assign) ?_
      refine RS.nil ?_
      refine thenC_n ?_
      refine CS.seq ?_
      refine CS.region ?_
      refine RS.q rfl (QO.move) ?_
      refine RS.qv rfl (QO.neq (by rfl) (by rfl)) (congrArg Value.bool (show ((frErr x y wi he (if k = 0 then n else n')) != 0) = false from by split <;> simp [h1, h2])) ?_
      refine RS.nil ?_
      refine thenC_n ?_
      refine CS.condF (by rfl) rfl ?_
      refine CS.skip ?_
      refine blockC_n ?_
      refine thenC_n ?_
      refine CS.region ?_
      first | (refine RS.q rfl (QO.add (by rfl) (by rfl) (by omega) (by omega)) ?_) | (refine RS.q rfl (QO.ibin (by rfl) (by rfl) trivial) ?_)
      refine RS.q rfl (QO.move) ?_
      refine RS.nil ?_
      refine loopQ_n (by intro t ht; repeat (first | with_reducible exact rfl | exact frame_puts ht (frame_mix ht) _ rfl | (refine frame_put rfl ht ?_) | (refine frame_puts ht ?_ _ rfl) | exact frame_mix ht | (refine frame_mix2 rfl ht ?_) | exact rfl)) ?_
      exact ⟨k + 1, by omega, by omega, (by repeat (first | exact kn_nil | refine kn_cons (by rfl) ?_)), (by repeat (first | exact List.Sublist.refl _ | exact List.nil_sublist _ | refine List.Sublist.cons_cons _ ?_ | refine List.Sublist.cons _ ?_ | exact Sbp.refl | exact Sbp.nil | refine Sbp.cons (by repeat (first | exact Rem.head | apply Rem.tail)) ?_ | exact Sbp.app | refine Sbp.skip ?_))⟩
    · have hb0p := of_decide_eq_false hb0
      refine CS.exit ?_
      refine thenC_x ?_
      refine loopQ_x ?_
      refine blockC_x ?_
      refine thenC_n ?_
      refine CS.seq ?_
      refine CS.seq ?_
      refine CS.region ?_
      refine RS.q rfl (QO.fieldAddr fo26_0 (by rfl)) ?_
      first | (refine RS.q rfl (QO.loadB ty23 (by rfl) (by repeat (first | exact List.Mem.head _ | refine List.Mem.tail _ ?_)) (by rfl)) ?_) | (refine RS.q rfl (QO.loadA ty23 (by rfl) (by repeat (first | exact List.Mem.head _ | refine List.Mem.tail _ ?_)) (by rfl) (by rfl)) ?_) | (refine RS.q rfl (QO.loadOA ty23 (by rfl) (by assumption) (by rfl)) ?_)
      refine RS.q rfl (QO.fieldAddr fo26_0 (by rfl)) ?_
      first | (refine RS.q rfl (QO.loadB ty23 (by rfl) (by repeat (first | exact List.Mem.head _ | refine List.Mem.tail _ ?_)) (by rfl)) ?_) | (refine RS.q rfl (QO.loadA ty23 (by rfl) (by repeat (first | exact List.Mem.head _ | refine List.Mem.tail _ ?_)) (by rfl) (by rfl)) ?_) | (refine RS.q rfl (QO.loadOA ty23 (by rfl) (by assumption) (by rfl)) ?_)
      first | (refine RS.qv rfl (QO.sneq4 eqt23 (by rfl) (by rfl)) (congrArg Value.bool (bne_self_eq_false [x, y, wi, he])) ?_) | (refine RS.qv rfl (QO.sneq eqt23 (by decide) (by rfl) (by rfl) (by rfl) (by rfl)) (congrArg Value.bool (bne_self_eq_false [x, y, wi, he])) ?_)
      refine RS.nil ?_
      refine thenC_n ?_
      refine CS.condF (by rfl) rfl ?_
      refine CS.skip ?_
      refine thenC_n ?_
      refine CS.seq ?_
      refine CS.region ?_
      refine RS.q rfl (QO.assign) ?_
      refine RS.nil ?_
      refine thenC_n ?_
      refine CS.ret ?_
      refine retQ.mk (H' := []) (.inr rfl) (RVs.tmp (by rfl) RVs.nil) (List.nil_sublist _) ?_
      exact ⟨rfl, rfl⟩

/-- a frame brought to another region -/
def likeV (xs : List Nat) (N : Nat) : List Nat := (List.range N).map fun i => xs.getD (i % xs.length) 0
theorem likeV_len (xs : List Nat) (N : Nat) : (likeV xs N).length = N := by simp [likeV]

set_option maxRecDepth 100000 in
theorem like (x y wi he rx ry rw_ rh : Int) (A : Option Addr) (n c N : Nat) (xs : List Nat) (W : World) (hn : xs.length = n) (hA : FS W A xs) (h0 : 0 < n) (h00 : n ≤ 1000000) (hN : (N : Int) = 4 * rw_ * rh) (h1 : 0 ≤ rw_) (h2 : rw_ ≤ 1024) (h3 : N ≤ 1000000) : Fn_ Try.prog 21 #[.agg #[iv x, iv y, iv wi, iv he, .slice A n c], .agg #[iv rx, iv ry, iv rw_, iv rh]] W (fun v H => ∃ g, v = .agg #[iv rx, iv ry, iv rw_, iv rh, .slice (some ⟨g, 0, none⟩) N N] ∧ H = [⟨g, 33, (likeV xs N).map flt⟩]) := by
  subst hn
  obtain ⟨bA, oA, rfl, hcell⟩ := hA h0
  refine Fn_.intro Try.func21 rfl rfl (by rfl) ?_
  refine CS.seq ?_
  refine CS.region ?_
  refine RS.box rfl (by rfl) (by rfl) ?_
  intro g2
  refine RS.box rfl (by rfl) (by rfl) ?_
  intro g3
  refine RS.alloc rfl ty26 ?_
  intro g4
  refine RS.nil ?_
  refine thenC_n ?_
  refine CS.seq ?_
  refine CS.region ?_
  first | (refine RS.q rfl (QO.loadB ty23 (by rfl) (by repeat (first | exact List.Mem.head _ | refine List.Mem.tail _ ?_)) (by rfl)) ?_) | (refine RS.q rfl (QO.loadA ty23 (by rfl) (by repeat (first | exact List.Mem.head _ | refine List.Mem.tail _ ?_)) (by rfl) (by rfl)) ?_) | (refine RS.q rfl (QO.loadOA ty23 (by rfl) (by assumption) (by rfl)) ?_)
  refine RS.q rfl (QO.fieldAddr fo26_0 (by rfl)) ?_
  first | refine RS.storeB ty23 (by rfl) (by rfl) (by rfl) (by rfl) (by rfl) (by repeat (first | exact Upd.head | apply Upd.tail)) (by rfl) ?_ | refine RS.storeP ty23 (by rfl) (by rfl) (by rfl) (by rfl) (by rfl) (by repeat (first | exact Upd.head | apply Upd.tail)) (by rfl) ?_
  refine RS.nil ?_
  refine thenC_n ?_
  refine CS.seq ?_
  refine CS.region ?_
  refine RS.q rfl (QO.fieldAddr fo23_2 (by rfl)) ?_
  first | (refine RS.q rfl (QO.load ty3 (by rfl) (by repeat (first | exact List.Mem.head _ | refine List.Mem.tail _ ?_)) (by rfl)) ?_) | (refine RS.q rfl (QO.loadO ty3 (by rfl) (by assumption)) ?_) | (refine RS.q rfl (QO.load ty3 (by rfl) (by repeat (first | exact List.Mem.head _ | refine List.Mem.tail _ ?_)) (by assumption)) ?_)
  first | (refine RS.q rfl (QO.mul (by rfl) (by rfl) (by omega) (by omega)) ?_) | (refine RS.q rfl (QO.ibin (by rfl) (by rfl) trivial) ?_)
  refine RS.q rfl (QO.fieldAddr fo23_3 (by rfl)) ?_
  first | (refine RS.q rfl (QO.load ty3 (by rfl) (by repeat (first | exact List.Mem.head _ | refine List.Mem.tail _ ?_)) (by rfl)) ?_) | (refine RS.q rfl (QO.loadO ty3 (by rfl) (by assumption)) ?_) | (refine RS.q rfl (QO.load ty3 (by rfl) (by repeat (first | exact List.Mem.head _ | refine List.Mem.tail _ ?_)) (by assumption)) ?_)
  first | (refine RS.qv rfl (QO.mul (by rfl) (by rfl) (by omega) (by omega)) (congrArg iv hN.symm) ?_) | (refine RS.qv rfl (QO.ibin (by rfl) (by rfl) trivial) (congrArg iv hN.symm) ?_)
  refine RS.make rfl Try.underlying24 ty33 (by rfl) (by rfl) (by omega) (by omega) (by omega) (by omega) ?_
  intro g15
  refine RS.q rfl (QO.assign) ?_
  refine RS.nil ?_
  refine thenC_n ?_
  refine CS.seq ?_
  refine CS.seq ?_
  refine CS.region ?_
  refine RS.q rfl (QO.move) ?_
  refine RS.q rfl (QO.lenS Try.underlying24 (by rfl)) ?_
  refine RS.q rfl (QO.move) ?_
  refine RS.nil ?_
  refine thenC_n ?_
  refine CS.block ?_
  refine CS.loop (X := Nat) (6 :: 18 :: 19 :: 20 :: 21 :: 22 :: 23 :: 24 :: 25 :: 26 :: 27 :: 28 :: 29 :: 30 :: 31 :: 32 :: 33 :: []) (fun k => [(18, iv (k : Int))]) (fun k => [⟨g15, 33, partL (fun i => xs.getD (i % xs.length) 0) N k⟩, ⟨g4, 26, [iv 0, iv 0, iv 0, iv 0, .slice none 0 0]⟩, ⟨g3, 23, [iv rx, iv ry, iv rw_, iv rh]⟩, ⟨g2, 26, [iv rx, iv ry, iv rw_, iv rh, .slice (some ⟨bA, oA, none⟩) xs.length c]⟩]) (fun k => k ≤ N) (fun k => N - k) 0 (Nat.zero_le _) ?_ ?_ ?_
  · exact (by repeat (first | exact kn_nil | refine kn_cons (by rfl) ?_))
  · exact (by rw [partL_zero]; exact (by repeat (first | exact List.Sublist.refl _ | exact List.nil_sublist _ | refine List.Sublist.cons_cons _ ?_ | refine List.Sublist.cons _ ?_ | exact Sbp.refl | exact Sbp.nil | refine Sbp.cons (by repeat (first | exact Rem.head | apply Rem.tail)) ?_ | exact Sbp.app | refine Sbp.skip ?_)))
  · intro k gj4 hz
    refine CS.seq ?_
    refine CS.region ?_
    refine RS.q rfl (QO.lss (by rfl) (by rfl)) ?_
    refine RS.nil ?_
    refine thenC_n ?_
    refine CS.seq ?_
    refine CS.cond (by rfl) (fun hb0 => ?_) (fun hb0 => ?_)
    · have hb0p := of_decide_eq_true hb0
      refine CS.skip ?_
      refine thenC_n ?_
      refine CS.seq ?_
      refine CS.block ?_
      refine CS.seq ?_
      refine CS.region ?_
      refine RS.q rfl (QO.move) ?_
      refine RS.q rfl (QO.assign) ?_
      refine RS.nil ?_
      refine thenC_n ?_
      refine CS.draw 12 rfl (by kernel_rfl) (by kernel_rfl) ?_
      refine RT.take (i := 0) rfl (by kernel_rfl) rfl (QO.move) ?_
      refine RT.take (i := 1) rfl (by kernel_rfl) rfl (QO.move) ?_
      refine RT.take (i := 2) rfl (by kernel_rfl) rfl (QO.fieldAddr fo26_1 (by rfl)) ?_
      first | (refine RT.take (i := 3) rfl (by kernel_rfl) rfl (QO.load ty24 (by rfl) (by repeat (first | exact List.Mem.head _ | refine List.Mem.tail _ ?_)) (by rfl)) ?_) | (refine RT.take (i := 3) rfl (by kernel_rfl) rfl (QO.loadO ty24 (by rfl) (by assumption)) ?_) | (refine RT.take (i := 3) rfl (by kernel_rfl) rfl (QO.load ty24 (by rfl) (by repeat (first | exact List.Mem.head _ | refine List.Mem.tail _ ?_)) (by assumption)) ?_)
      refine RT.take (i := 4) rfl (by kernel_rfl) rfl (QO.move) ?_
      refine RT.take (i := 5) rfl (by kernel_rfl) rfl (QO.fieldAddr fo26_1 (by rfl)) ?_
      first | (refine RT.take (i := 6) rfl (by kernel_rfl) rfl (QO.load ty24 (by rfl) (by repeat (first | exact List.Mem.head _ | refine List.Mem.tail _ ?_)) (by rfl)) ?_) | (refine RT.take (i := 6) rfl (by kernel_rfl) rfl (QO.loadO ty24 (by rfl) (by assumption)) ?_) | (refine RT.take (i := 6) rfl (by kernel_rfl) rfl (QO.load ty24 (by rfl) (by repeat (first | exact List.Mem.head _ | refine List.Mem.tail _ ?_)) (by assumption)) ?_)
      refine RT.take (i := 7) rfl (by kernel_rfl) rfl (QO.lenS Try.underlying24 (by rfl)) ?_
      have hlt : k % xs.length < xs.length := Nat.mod_lt _ (by omega)
      refine RT.takev (i := 8) rfl (by kernel_rfl) rfl (QO.rem (by rfl) (by rfl) (by omega)) (congrArg iv (tmod_cast k xs.length)) ?_
      first | (refine RT.take (i := 9) rfl (by kernel_rfl) rfl (QO.idx0 Try.underlying24 ty33 (by rfl) (by rfl) (by rfl) (by omega)) ?_) | (refine RT.take (i := 9) rfl (by kernel_rfl) rfl (QO.idxn Try.underlying24 ty33 (by rfl) (by rfl) (by rfl) (by omega)) ?_) | (refine RT.take (i := 9) rfl (by kernel_rfl) rfl (QO.idx1 Try.underlying24 ty33 (by rfl) (by rfl) (by omega) (by omega)) ?_)
      refine RT.take (i := 10) rfl (by kernel_rfl) rfl (QO.loadO ty33 (by rfl) (hcell _ _ (by rw [List.getElem?_eq_getElem hlt, getD_at]))) ?_
      first | (refine RT.take (i := 11) rfl (by kernel_rfl) rfl (QO.idx0 Try.underlying24 ty33 (by rfl) (by rfl) (by rfl) (by omega)) ?_) | (refine RT.take (i := 11) rfl (by kernel_rfl) rfl (QO.idxn Try.underlying24 ty33 (by rfl) (by rfl) (by rfl) (by omega)) ?_) | (refine RT.take (i := 11) rfl (by kernel_rfl) rfl (QO.idx1 Try.underlying24 ty33 (by rfl) (by rfl) (by omega) (by omega)) ?_)
      refine RT.tail (i := 12) (by kernel_rfl) rfl rfl ?_
      refine RS.store1e ty33 rfl (by rfl) (by rfl) (by rfl) (partL_set (fun i => xs.getD (i % xs.length) 0) N k _ rfl (by omega)) (by repeat (first | exact Upd.head | apply Upd.tail)) (by rw [partL_len]; omega) ?_
      refine RS.nil ?_
      refine RT.done (by kernel_rfl) ?_
      refine blockC_n ?_
      refine thenC_n ?_
      refine CS.region ?_
      first | (refine RS.q rfl (QO.add (by rfl) (by rfl) (by omega) (by omega)) ?_) | (refine RS.q rfl (QO.ibin (by rfl) (by rfl) trivial) ?_)
      refine RS.q rfl (QO.move) ?_
      refine RS.nil ?_
      refine loopQ_n (by intro t ht; repeat (first | with_reducible exact rfl | exact frame_puts ht (frame_mix ht) _ rfl | (refine frame_put rfl ht ?_) | (refine frame_puts ht ?_ _ rfl) | exact frame_mix ht | (refine frame_mix2 rfl ht ?_) | exact rfl)) ?_
      exact ⟨k + 1, by omega, by omega, (by repeat (first | exact kn_nil | refine kn_cons (by rfl) ?_)), (by repeat (first | exact List.Sublist.refl _ | exact List.nil_sublist _ | refine List.Sublist.cons_cons _ ?_ | refine List.Sublist.cons _ ?_ | exact Sbp.refl | exact Sbp.nil | refine Sbp.cons (by repeat (first | exact Rem.head | apply Rem.tail)) ?_ | exact Sbp.app | refine Sbp.skip ?_))⟩
    · have hb0p := of_decide_eq_false hb0
      refine CS.exit ?_
      refine thenC_x ?_
      refine loopQ_x ?_
      refine blockC_x ?_
      refine thenC_n ?_
      refine CS.seq ?_
      refine CS.region ?_
      refine RS.q rfl (QO.move) ?_
      refine RS.q rfl (QO.fieldAddr fo26_1 (by rfl)) ?_
      refine RS.store1 ty24 rfl (by rfl) (by rfl) (by rfl) (by repeat (first | exact Upd.head | apply Upd.tail)) (by first | (simp; done) | (simp; omega) | omega) ?_
      refine RS.nil ?_
      refine thenC_n ?_
      refine CS.seq ?_
      refine CS.region ?_
      first | (refine RS.q rfl (QO.loadB ty26 (by rfl) (by repeat (first | exact List.Mem.head _ | refine List.Mem.tail _ ?_)) (by rfl)) ?_) | (refine RS.q rfl (QO.loadA ty26 (by rfl) (by repeat (first | exact List.Mem.head _ | refine List.Mem.tail _ ?_)) (by rfl) (by rfl)) ?_) | (refine RS.q rfl (QO.loadOA ty26 (by rfl) (by assumption) (by rfl)) ?_)
      first | refine RS.storeB ty26 (by rfl) (by rfl) (by rfl) (by rfl) (by rfl) (by repeat (first | exact Upd.head | apply Upd.tail)) (by rfl) ?_ | refine RS.storeP ty26 (by rfl) (by rfl) (by rfl) (by rfl) (by rfl) (by repeat (first | exact Upd.head | apply Upd.tail)) (by rfl) ?_
      refine RS.nil ?_
      refine thenC_n ?_
      refine CS.ret ?_
      refine retQ.mk (H' := [⟨g15, 33, (likeV xs N).map flt⟩]) (.inr rfl) (RVs.cellA ty26 (by rfl) (by repeat (first | exact List.Mem.head _ | refine List.Mem.tail _ ?_)) (by rfl) RVs.nil) (by obtain rfl : k = N := (by omega); rw [partL_full]; exact (by repeat (first | exact List.Sublist.refl _ | exact List.nil_sublist _ | refine List.Sublist.cons_cons _ ?_ | refine List.Sublist.cons _ ?_ | exact Sbp.refl | exact Sbp.nil | refine Sbp.cons (by repeat (first | exact Rem.head | apply Rem.tail)) ?_ | exact Sbp.app | refine Sbp.skip ?_))) ?_
      exact ⟨g15, rfl, rfl⟩

/-- do the first k numbers of pixel i agree -/
def sameK (ys zs : List Nat) (i k : Nat) : Bool := (List.range k).all fun c => ((cl (ys.getD (4 * i + c) 0) : Nat) : Int) == (cl (zs.getD (4 * i + c) 0) : Nat)
theorem sameK_T {ys zs : List Nat} {i k : Nat} (h : sameK ys zs i k = true) : (((cl (ys.getD (4 * i + k) 0) : Nat) : Int) == (cl (zs.getD (4 * i + k) 0) : Nat)) = sameK ys zs i (k + 1) := by
  unfold sameK at h ⊢
  rw [List.range_succ, List.all_append, h]
  simp
theorem sameK_F {ys zs : List Nat} {i k : Nat} (h : sameK ys zs i k = false) : false = sameK ys zs i (k + 1) := by
  unfold sameK at h ⊢
  rw [List.range_succ, List.all_append, h]
  simp
/-- how many of the first m pixels differ -/
def cnt (ys zs : List Nat) : Nat → Nat
  | 0 => 0
  | m + 1 => cnt ys zs m + if sameK ys zs m 4 then 0 else 1
theorem cnt_same {ys zs : List Nat} {m : Nat} (h : sameK ys zs m 4 = true) : cnt ys zs m = cnt ys zs (m + 1) := by simp [cnt, h]
theorem cnt_diff {ys zs : List Nat} {m : Nat} (h : sameK ys zs m 4 = false) : cnt ys zs m + 1 = cnt ys zs (m + 1) := by simp [cnt, h]
theorem cnt_le (ys zs : List Nat) : ∀ m, cnt ys zs m ≤ m
  | 0 => Nat.le_refl _
  | m + 1 => by
    have := cnt_le ys zs m
    unfold cnt
    split <;> omega
theorem cnt_zero {ys zs : List Nat} : ∀ {m : Nat}, cnt ys zs m = 0 → ∀ i, i < m → sameK ys zs i 4 = true
  | 0, _, _, h => absurd h (Nat.not_lt_zero _)
  | m + 1, h, i, hi => by
    unfold cnt at h
    by_cases e : i = m
    · subst e
      split at h
      · assumption
      · omega
    · exact cnt_zero (m := m) (by omega) i (by omega)
theorem tdiv_cast (a b : Nat) : (a : Int).tdiv (b : Int) = ((a / b : Nat) : Int) := by simp [Int.tdiv]
/-- the box holds every pixel that differs -/
def boxOK (ys zs : List Nat) (a : Nat) (k : Nat) (L T R B : Int) : Prop := ∀ i, i < k → sameK ys zs i 4 = false → L ≤ ((i % a : Nat) : Int) ∧ T ≤ ((i / a : Nat) : Int) ∧ ((i % a : Nat) : Int) + 1 ≤ R ∧ ((i / a : Nat) : Int) + 1 ≤ B
theorem boxOK_same {ys zs : List Nat} {a k : Nat} {L T R B : Int} (h : boxOK ys zs a k L T R B) (hs : sameK ys zs k 4 = true) : boxOK ys zs a (k + 1) L T R B := fun i hi hd => by
  by_cases e : i = k
  · subst e; rw [hs] at hd; cases hd
  · exact h i (by omega) hd
theorem boxOK_diff {ys zs : List Nat} {a k : Nat} {L T R B : Int} (h : boxOK ys zs a k L T R B) : boxOK ys zs a (k + 1) (min L ((k % a : Nat) : Int)) (min T ((k / a : Nat) : Int)) (max R (((k % a : Nat) : Int) + 1)) (max B (((k / a : Nat) : Int) + 1)) := fun i hi hd => by
  by_cases e : i = k
  · subst e; exact ⟨Int.min_le_right _ _, Int.min_le_right _ _, Int.le_max_right _ _, Int.le_max_right _ _⟩
  · obtain ⟨h1, h2, h3, h4⟩ := h i (by omega) hd
    exact ⟨Int.le_trans (Int.min_le_left _ _) h1, Int.le_trans (Int.min_le_left _ _) h2, Int.le_trans h3 (Int.le_max_left _ _), Int.le_trans h4 (Int.le_max_left _ _)⟩
theorem min_bd {L : Int} {q : Nat} (h : 0 ≤ L ∧ L ≤ 8) : 0 ≤ min L (q : Int) ∧ min L (q : Int) ≤ 8 := by omega
theorem max_bd {R : Int} {q : Nat} (h : 0 ≤ R ∧ R ≤ 8) (hq : q < 8) : 0 ≤ max R ((q : Int) + 1) ∧ max R ((q : Int) + 1) ≤ 8 := by omega
theorem insB_box {X Y L T R B : Int} {q r : Nat} (h : L ≤ q ∧ T ≤ r ∧ (q : Int) + 1 ≤ R ∧ (r : Int) + 1 ≤ B) : insB (X + q) (Y + r) 1 1 (X + L) (Y + T) (R - L) (B - T) = true := decide_eq_true (by omega)
theorem div_lt_of {i a b : Nat} (ha : 1 ≤ a) (h : i < a * b) : i / a < b := by rw [Nat.div_lt_iff_lt_mul ha, Nat.mul_comm]; exact h

set_option maxRecDepth 100000 in
theorem changed (X Y : Int) (a b : Nat) (A A' : Option Addr) (n n' c c' : Nat) (ys zs : List Nat) (W : World) (hn : ys.length = n) (hn' : zs.length = n') (hA : FS W A ys) (hA' : FS W A' zs) (hN : n = 4 * (a * b)) (hN' : n' = 4 * (a * b)) (ha : 1 ≤ a ∧ a ≤ 8) (hb : 1 ≤ b ∧ b ≤ 8) (hX : -1000 ≤ X ∧ X ≤ 1000) (hY : -1000 ≤ Y ∧ Y ≤ 1000) (hab : a * b ≤ 64) : Fn_ Try.prog 22 #[.agg #[iv X, iv Y, iv (a : Int), iv (b : Int), .slice A n c], .agg #[iv X, iv Y, iv (a : Int), iv (b : Int), .slice A' n' c']] W (fun v H => ∃ rx ry rw_ rh, v = .tuple #[.agg #[iv rx, iv ry, iv rw_, iv rh], iv (cnt ys zs (a * b)), iv 0] ∧ H = [] ∧ (-2000 ≤ rx ∧ rx ≤ 2000) ∧ (-2000 ≤ ry ∧ ry ≤ 2000) ∧ (-2000 ≤ rw_ ∧ rw_ ≤ 2000) ∧ (-2000 ≤ rh ∧ rh ≤ 2000) ∧ ∀ i, i < a * b → sameK ys zs i 4 = false → insB (X + ((i % a : Nat) : Int)) (Y + ((i / a : Nat) : Int)) 1 1 rx ry rw_ rh = true) := by
  subst hn
  subst hn'
  have hcast : ((a * b : Nat) : Int) = (a : Int) * (b : Int) := Int.natCast_mul ..
  have h41 : 4 * (a : Int) * (b : Int) = 4 * ((a : Int) * (b : Int)) := Int.mul_assoc ..
  have h1ab : 1 * 1 ≤ a * b := Nat.mul_le_mul ha.1 hb.1
  have hfr : frErr X Y a b ys.length = 0 := by
    unfold frErr
    rw [regErr_small ha hb hX hY, if_neg (by simp), if_neg (by omega)]
  have hfr' : frErr X Y a b zs.length = 0 := by
    unfold frErr
    rw [regErr_small ha hb hX hY, if_neg (by simp), if_neg (by omega)]
  obtain ⟨bA, oA, rfl, hcell⟩ := hA (by omega)
  obtain ⟨bA', oA', rfl, hcell'⟩ := hA' (by omega)
  refine Fn_.intro Try.func22 rfl rfl (by rfl) ?_
  refine CS.seq ?_
  refine CS.region ?_
  refine RS.box rfl (by rfl) (by rfl) ?_
  intro g2
  refine RS.box rfl (by rfl) (by rfl) ?_
  intro g3
  refine RS.alloc rfl ty23 ?_
  intro g4
  refine RS.q rfl (QO.assign) ?_
  refine RS.q rfl (QO.assign) ?_
  refine RS.nil ?_
  refine thenC_n ?_
  refine CS.seq ?_
  refine CS.seq ?_
  refine CS.region ?_
  first | (refine RS.q rfl (QO.loadB ty26 (by rfl) (by repeat (first | exact List.Mem.head _ | refine List.Mem.tail _ ?_)) (by rfl)) ?_) | (refine RS.q rfl (QO.loadA ty26 (by rfl) (by repeat (first | exact List.Mem.head _ | refine List.Mem.tail _ ?_)) (by rfl) (by rfl)) ?_) | (refine RS.q rfl (QO.loadOA ty26 (by rfl) (by assumption) (by rfl)) ?_)
  first | (refine RS.q rfl (QO.loadB ty26 (by rfl) (by repeat (first | exact List.Mem.head _ | refine List.Mem.tail _ ?_)) (by rfl)) ?_) | (refine RS.q rfl (QO.loadA ty26 (by rfl) (by repeat (first | exact List.Mem.head _ | refine List.Mem.tail _ ?_)) (by rfl) (by rfl)) ?_) | (refine RS.q rfl (QO.loadOA ty26 (by rfl) (by assumption) (by rfl)) ?_)
  refine RS.call rfl (by rfl) ok111 (by rfl) (fun w ho => checkTwo X Y a b _ _ _ _ _ _ w hfr hfr') ?_
  rintro _ _ ⟨rfl, rfl⟩
  refine RS.q rfl (QO.assign) ?_
  refine RS.nil ?_
  refine thenC_n ?_
  refine CS.seq ?_
  refine CS.region ?_
  refine RS.q rfl (QO.move) ?_
  refine RS.q rfl (QO.neq (by rfl) (by rfl)) ?_
  refine RS.nil ?_
  refine thenC_n ?_
  refine CS.condF (by rfl) rfl ?_
  refine CS.skip ?_
  refine thenC_n ?_
  refine CS.seq ?_
  refine CS.region ?_
  refine RS.q rfl (QO.assign) ?_
  refine RS.nil ?_
  refine thenC_n ?_
  refine CS.seq ?_
  refine CS.draw 10 rfl (by kernel_rfl) (by kernel_rfl) ?_
  refine RT.take (i := 0) rfl (by kernel_rfl) rfl (QO.fieldAddr fo26_0 (by rfl)) ?_
  refine RT.take (i := 1) rfl (by kernel_rfl) rfl (QO.fieldAddr fo23_2 (by rfl)) ?_
  first | (refine RT.take (i := 2) rfl (by kernel_rfl) rfl (QO.load ty3 (by rfl) (by repeat (first | exact List.Mem.head _ | refine List.Mem.tail _ ?_)) (by rfl)) ?_) | (refine RT.take (i := 2) rfl (by kernel_rfl) rfl (QO.loadO ty3 (by rfl) (by assumption)) ?_) | (refine RT.take (i := 2) rfl (by kernel_rfl) rfl (QO.load ty3 (by rfl) (by repeat (first | exact List.Mem.head _ | refine List.Mem.tail _ ?_)) (by assumption)) ?_)
  refine RT.take (i := 3) rfl (by kernel_rfl) rfl (QO.fieldAddr fo26_0 (by rfl)) ?_
  refine RT.take (i := 4) rfl (by kernel_rfl) rfl (QO.fieldAddr fo23_3 (by rfl)) ?_
  first | (refine RT.take (i := 5) rfl (by kernel_rfl) rfl (QO.load ty3 (by rfl) (by repeat (first | exact List.Mem.head _ | refine List.Mem.tail _ ?_)) (by rfl)) ?_) | (refine RT.take (i := 5) rfl (by kernel_rfl) rfl (QO.loadO ty3 (by rfl) (by assumption)) ?_) | (refine RT.take (i := 5) rfl (by kernel_rfl) rfl (QO.load ty3 (by rfl) (by repeat (first | exact List.Mem.head _ | refine List.Mem.tail _ ?_)) (by assumption)) ?_)
  refine RT.take (i := 6) rfl (by kernel_rfl) rfl (QO.assign) ?_
  refine RT.take (i := 7) rfl (by kernel_rfl) rfl (QO.assign) ?_
  refine RT.take (i := 8) rfl (by kernel_rfl) rfl (QO.assign) ?_
  refine RT.take (i := 9) rfl (by kernel_rfl) rfl (QO.assign) ?_
  refine RT.done (by kernel_rfl) ?_
  refine thenC_n ?_
  refine CS.seq ?_
  refine CS.seq ?_
  refine CS.region ?_
  refine RS.q rfl (QO.fieldAddr fo26_0 (by rfl)) ?_
  refine RS.q rfl (QO.fieldAddr fo23_2 (by rfl)) ?_
  first | (refine RS.q rfl (QO.load ty3 (by rfl) (by repeat (first | exact List.Mem.head _ | refine List.Mem.tail _ ?_)) (by rfl)) ?_) | (refine RS.q rfl (QO.loadO ty3 (by rfl) (by assumption)) ?_) | (refine RS.q rfl (QO.load ty3 (by rfl) (by repeat (first | exact List.Mem.head _ | refine List.Mem.tail _ ?_)) (by assumption)) ?_)
  refine RS.q rfl (QO.fieldAddr fo26_0 (by rfl)) ?_
  refine RS.q rfl (QO.fieldAddr fo23_3 (by rfl)) ?_
  first | (refine RS.q rfl (QO.load ty3 (by rfl) (by repeat (first | exact List.Mem.head _ | refine List.Mem.tail _ ?_)) (by rfl)) ?_) | (refine RS.q rfl (QO.loadO ty3 (by rfl) (by assumption)) ?_) | (refine RS.q rfl (QO.load ty3 (by rfl) (by repeat (first | exact List.Mem.head _ | refine List.Mem.tail _ ?_)) (by assumption)) ?_)
  first | (refine RS.qv rfl (QO.mul (by rfl) (by rfl) (by omega) (by omega)) (congrArg iv hcast.symm) ?_) | (refine RS.qv rfl (QO.ibin (by rfl) (by rfl) trivial) (congrArg iv hcast.symm) ?_)
  refine RS.q rfl (QO.move) ?_
  refine RS.nil ?_
  refine thenC_n ?_
  refine CS.block ?_
  refine CS.loop (X := Nat × Int × Int × Int × Int) (8 :: 9 :: 10 :: 11 :: 12 :: 13 :: 14 :: 15 :: 16 :: 17 :: 38 :: 39 :: 40 :: 41 :: 42 :: 43 :: 44 :: 45 :: 46 :: 47 :: 48 :: 49 :: 50 :: 51 :: 52 :: 53 :: 54 :: 55 :: 56 :: 57 :: 58 :: 59 :: 60 :: 61 :: 62 :: 63 :: 64 :: 65 :: 66 :: 67 :: 68 :: 69 :: 70 :: 71 :: 72 :: 73 :: 74 :: 75 :: 76 :: 77 :: 78 :: 79 :: 80 :: 81 :: 82 :: 83 :: 84 :: 85 :: 86 :: 87 :: 88 :: 89 :: 90 :: 91 :: 92 :: 93 :: 94 :: []) (fun z => [(38, iv (z.1 : Int)), (8, iv (cnt ys zs z.1 : Nat)), (9, iv z.2.1), (10, iv z.2.2.1), (11, iv z.2.2.2.1), (12, iv z.2.2.2.2)]) (fun z => [⟨g4, 23, [iv 0, iv 0, iv 0, iv 0]⟩, ⟨g3, 26, [iv X, iv Y, iv (a : Int), iv (b : Int), .slice (some ⟨bA', oA', none⟩) zs.length c']⟩, ⟨g2, 26, [iv X, iv Y, iv (a : Int), iv (b : Int), .slice (some ⟨bA, oA, none⟩) ys.length c]⟩]) (fun z => z.1 ≤ a * b ∧ boxOK ys zs a z.1 z.2.1 z.2.2.1 z.2.2.2.1 z.2.2.2.2 ∧ (0 ≤ z.2.1 ∧ z.2.1 ≤ 8) ∧ (0 ≤ z.2.2.1 ∧ z.2.2.1 ≤ 8) ∧ (0 ≤ z.2.2.2.1 ∧ z.2.2.2.1 ≤ 8) ∧ (0 ≤ z.2.2.2.2 ∧ z.2.2.2.2 ≤ 8)) (fun z => a * b - z.1) (0, (a : Int), (b : Int), 0, 0) ⟨Nat.zero_le _, fun i hi => absurd hi (Nat.not_lt_zero _), by simp only; omega, by simp only; omega, by simp only; omega, by simp only; omega⟩ ?_ ?_ ?_
  · exact (by repeat (first | exact kn_nil | refine kn_cons (by rfl) ?_))
  · exact (by repeat (first | exact List.Sublist.refl _ | exact List.nil_sublist _ | refine List.Sublist.cons_cons _ ?_ | refine List.Sublist.cons _ ?_ | exact Sbp.refl | exact Sbp.nil | refine Sbp.cons (by repeat (first | exact Rem.head | apply Rem.tail)) ?_ | exact Sbp.app | refine Sbp.skip ?_))
  · intro z gj7 hz
    obtain ⟨k, L, T, R, B⟩ := z
    obtain ⟨hk, hbox, hL, hT, hR, hB⟩ := hz
    simp only at hk hbox hL hT hR hB
    show CS _ _ _ _ _ (puts (mix _ _ _) [(38, iv (k : Int)), (8, iv (cnt ys zs k : Nat)), (9, iv L), (10, iv T), (11, iv R), (12, iv B)]) ([⟨g4, 23, [iv 0, iv 0, iv 0, iv 0]⟩, ⟨g3, 26, [iv X, iv Y, iv (a : Int), iv (b : Int), .slice (some ⟨bA', oA', none⟩) zs.length c']⟩, ⟨g2, 26, [iv X, iv Y, iv (a : Int), iv (b : Int), .slice (some ⟨bA, oA, none⟩) ys.length c]⟩])
    refine CS.seq ?_
    refine CS.region ?_
    refine RS.q rfl (QO.lss (by rfl) (by rfl)) ?_
    refine RS.nil ?_
    refine thenC_n ?_
    refine CS.seq ?_
    refine CS.cond (by rfl) (fun hb0 => ?_) (fun hb0 => ?_)
    · have hb0p := of_decide_eq_true hb0
      refine CS.skip ?_
      refine thenC_n ?_
      refine CS.seq ?_
      refine CS.block ?_
      refine CS.seq ?_
      refine CS.region ?_
      refine RS.q rfl (QO.move) ?_
      refine RS.q rfl (QO.assign) ?_
      refine RS.nil ?_
      refine thenC_n ?_
      refine CS.seq ?_
      refine CS.region ?_
      refine RS.q rfl (QO.assign) ?_
      refine RS.nil ?_
      refine thenC_n ?_
      refine CS.seq ?_
      refine CS.seq ?_
      refine CS.region ?_
      refine RS.q rfl (QO.move) ?_
      refine RS.nil ?_
      refine thenC_n ?_
      refine CS.block ?_
      have hklt : k < a * b := by omega
      refine CS.loop (X := Nat) (14 :: 15 :: 41 :: 42 :: 43 :: 44 :: 45 :: 46 :: 47 :: 48 :: 49 :: 50 :: 51 :: 52 :: 53 :: 54 :: 55 :: 56 :: 57 :: 58 :: 59 :: 60 :: 61 :: 62 :: 63 :: 64 :: 65 :: 66 :: []) (fun cc => [(41, iv (cc : Int)), (14, .bool (sameK ys zs k cc))]) (fun cc => [⟨g4, 23, [iv 0, iv 0, iv 0, iv 0]⟩, ⟨g3, 26, [iv X, iv Y, iv (a : Int), iv (b : Int), .slice (some ⟨bA', oA', none⟩) zs.length c']⟩, ⟨g2, 26, [iv X, iv Y, iv (a : Int), iv (b : Int), .slice (some ⟨bA, oA, none⟩) ys.length c]⟩]) (fun cc => cc ≤ 4) (fun cc => 4 - cc) 0 (by omega) ?_ ?_ ?_
      · exact (by repeat (first | exact kn_nil | refine kn_cons (by rfl) ?_))
      · exact (by repeat (first | exact List.Sublist.refl _ | exact List.nil_sublist _ | refine List.Sublist.cons_cons _ ?_ | refine List.Sublist.cons _ ?_ | exact Sbp.refl | exact Sbp.nil | refine Sbp.cons (by repeat (first | exact Rem.head | apply Rem.tail)) ?_ | exact Sbp.app | refine Sbp.skip ?_))
      · intro cc gj11 hz
        refine CS.seq ?_
        refine CS.region ?_
        refine RS.q rfl (QO.lss (by rfl) (by rfl)) ?_
        refine RS.nil ?_
        refine thenC_n ?_
        refine CS.seq ?_
        refine CS.cond (by rfl) (fun hb1 => ?_) (fun hb1 => ?_)
        · have hb1p := of_decide_eq_true hb1
          refine CS.skip ?_
          refine thenC_n ?_
          refine CS.seq ?_
          refine CS.block ?_
          refine CS.seq ?_
          refine CS.region ?_
          refine RS.q rfl (QO.move) ?_
          refine RS.q rfl (QO.assign) ?_
          refine RS.nil ?_
          refine thenC_n ?_
          refine CS.draw 23 rfl (by kernel_rfl) (by kernel_rfl) ?_
          refine RT.take (i := 0) rfl (by kernel_rfl) rfl (QO.move) ?_
          refine RT.take (i := 1) rfl (by kernel_rfl) rfl (QO.move) ?_
          refine RT.split (dj := 45) (by rfl) (fun hb2 => ?_) (fun hb2 => ?_)
          · refine RT.takeOn (i := 2) (dj := 45) rfl rfl (congrArg Value.bool hb2) (by kernel_rfl) rfl (QO.fieldAddr fo26_1 (by rfl)) ?_
            first | (refine RT.takeOn (i := 3) (dj := 45) rfl rfl (congrArg Value.bool hb2) (by kernel_rfl) rfl (QO.load ty24 (by rfl) (by repeat (first | exact List.Mem.head _ | refine List.Mem.tail _ ?_)) (by rfl)) ?_) | (refine RT.takeOn (i := 3) (dj := 45) rfl rfl (congrArg Value.bool hb2) (by kernel_rfl) rfl (QO.loadO ty24 (by rfl) (by assumption)) ?_) | (refine RT.takeOn (i := 3) (dj := 45) rfl rfl (congrArg Value.bool hb2) (by kernel_rfl) rfl (QO.load ty24 (by rfl) (by repeat (first | exact List.Mem.head _ | refine List.Mem.tail _ ?_)) (by assumption)) ?_)
            refine RT.takeOn (i := 4) (dj := 45) rfl rfl (congrArg Value.bool hb2) (by kernel_rfl) rfl (QO.move) ?_
            first | (refine RT.takeOn (i := 5) (dj := 45) rfl rfl (congrArg Value.bool hb2) (by kernel_rfl) rfl (QO.mul (by rfl) (by rfl) (by omega) (by omega)) ?_) | (refine RT.takeOn (i := 5) (dj := 45) rfl rfl (congrArg Value.bool hb2) (by kernel_rfl) rfl (QO.ibin (by rfl) (by rfl) trivial) ?_)
            refine RT.takeOn (i := 6) (dj := 45) rfl rfl (congrArg Value.bool hb2) (by kernel_rfl) rfl (QO.move) ?_
            first | (refine RT.takeOnv (i := 7) (dj := 45) rfl rfl (congrArg Value.bool hb2) (by kernel_rfl) rfl (QO.add (by rfl) (by rfl) (by omega) (by omega)) (congrArg iv (show 4 * (k : Int) + (cc : Int) = ((4 * k + cc : Nat) : Int) by omega)) ?_) | (refine RT.takeOnv (i := 7) (dj := 45) rfl rfl (congrArg Value.bool hb2) (by kernel_rfl) rfl (QO.ibin (by rfl) (by rfl) trivial) (congrArg iv (show 4 * (k : Int) + (cc : Int) = ((4 * k + cc : Nat) : Int) by omega)) ?_)
            first | (refine RT.takeOn (i := 8) (dj := 45) rfl rfl (congrArg Value.bool hb2) (by kernel_rfl) rfl (QO.idx0 Try.underlying24 ty33 (by rfl) (by rfl) (by rfl) (by omega)) ?_) | (refine RT.takeOn (i := 8) (dj := 45) rfl rfl (congrArg Value.bool hb2) (by kernel_rfl) rfl (QO.idxn Try.underlying24 ty33 (by rfl) (by rfl) (by rfl) (by omega)) ?_) | (refine RT.takeOn (i := 8) (dj := 45) rfl rfl (congrArg Value.bool hb2) (by kernel_rfl) rfl (QO.idx1 Try.underlying24 ty33 (by rfl) (by rfl) (by omega) (by omega)) ?_)
            refine RT.takeOn (i := 9) (dj := 45) rfl rfl (congrArg Value.bool hb2) (by kernel_rfl) rfl (QO.loadO ty33 (by rfl) (hcell _ _ (by rw [List.getElem?_eq_getElem (show 4 * k + cc < ys.length by omega), getD_at]))) ?_
            refine RT.takeOn (i := 11) (dj := 45) rfl rfl (congrArg Value.bool hb2) (by kernel_rfl) rfl (QO.fieldAddr fo26_1 (by rfl)) ?_
            first | (refine RT.takeOn (i := 12) (dj := 45) rfl rfl (congrArg Value.bool hb2) (by kernel_rfl) rfl (QO.load ty24 (by rfl) (by repeat (first | exact List.Mem.head _ | refine List.Mem.tail _ ?_)) (by rfl)) ?_) | (refine RT.takeOn (i := 12) (dj := 45) rfl rfl (congrArg Value.bool hb2) (by kernel_rfl) rfl (QO.loadO ty24 (by rfl) (by assumption)) ?_) | (refine RT.takeOn (i := 12) (dj := 45) rfl rfl (congrArg Value.bool hb2) (by kernel_rfl) rfl (QO.load ty24 (by rfl) (by repeat (first | exact List.Mem.head _ | refine List.Mem.tail _ ?_)) (by assumption)) ?_)
            refine RT.takeOn (i := 13) (dj := 45) rfl rfl (congrArg Value.bool hb2) (by kernel_rfl) rfl (QO.move) ?_
            first | (refine RT.takeOn (i := 14) (dj := 45) rfl rfl (congrArg Value.bool hb2) (by kernel_rfl) rfl (QO.mul (by rfl) (by rfl) (by omega) (by omega)) ?_) | (refine RT.takeOn (i := 14) (dj := 45) rfl rfl (congrArg Value.bool hb2) (by kernel_rfl) rfl (QO.ibin (by rfl) (by rfl) trivial) ?_)
            refine RT.takeOn (i := 15) (dj := 45) rfl rfl (congrArg Value.bool hb2) (by kernel_rfl) rfl (QO.move) ?_
            first | (refine RT.takeOnv (i := 16) (dj := 45) rfl rfl (congrArg Value.bool hb2) (by kernel_rfl) rfl (QO.add (by rfl) (by rfl) (by omega) (by omega)) (congrArg iv (show 4 * (k : Int) + (cc : Int) = ((4 * k + cc : Nat) : Int) by omega)) ?_) | (refine RT.takeOnv (i := 16) (dj := 45) rfl rfl (congrArg Value.bool hb2) (by kernel_rfl) rfl (QO.ibin (by rfl) (by rfl) trivial) (congrArg iv (show 4 * (k : Int) + (cc : Int) = ((4 * k + cc : Nat) : Int) by omega)) ?_)
            first | (refine RT.takeOn (i := 17) (dj := 45) rfl rfl (congrArg Value.bool hb2) (by kernel_rfl) rfl (QO.idx0 Try.underlying24 ty33 (by rfl) (by rfl) (by rfl) (by omega)) ?_) | (refine RT.takeOn (i := 17) (dj := 45) rfl rfl (congrArg Value.bool hb2) (by kernel_rfl) rfl (QO.idxn Try.underlying24 ty33 (by rfl) (by rfl) (by rfl) (by omega)) ?_) | (refine RT.takeOn (i := 17) (dj := 45) rfl rfl (congrArg Value.bool hb2) (by kernel_rfl) rfl (QO.idx1 Try.underlying24 ty33 (by rfl) (by rfl) (by omega) (by omega)) ?_)
            refine RT.takeOn (i := 18) (dj := 45) rfl rfl (congrArg Value.bool hb2) (by kernel_rfl) rfl (QO.loadO ty33 (by rfl) (hcell' _ _ (by rw [List.getElem?_eq_getElem (show 4 * k + cc < zs.length by omega), getD_at]))) ?_
            refine RT.one (i := 10) (by kernel_rfl) rfl rfl ?_
            refine RS.on (dj := 45) rfl (congrArg Value.bool hb2) ?_
            refine RS.call rfl (by rfl) ok110 (by rfl) (fun w ho => bits _ _) ?_
            rintro _ _ ⟨rfl, rfl⟩
            refine RS.nil ⟨(by repeat (first | exact List.Sublist.refl _ | exact List.nil_sublist _ | refine List.Sublist.cons_cons _ ?_ | refine List.Sublist.cons _ ?_ | exact Sbp.refl | exact Sbp.nil | refine Sbp.cons (by repeat (first | exact Rem.head | apply Rem.tail)) ?_ | exact Sbp.app | refine Sbp.skip ?_)), ?_⟩
            refine RT.one (i := 19) (by kernel_rfl) rfl rfl ?_
            refine RS.on (dj := 45) rfl (congrArg Value.bool hb2) ?_
            refine RS.call rfl (by rfl) ok110 (by rfl) (fun w ho => bits _ _) ?_
            rintro _ _ ⟨rfl, rfl⟩
            refine RS.nil ⟨(by repeat (first | exact List.Sublist.refl _ | exact List.nil_sublist _ | refine List.Sublist.cons_cons _ ?_ | refine List.Sublist.cons _ ?_ | exact Sbp.refl | exact Sbp.nil | refine Sbp.cons (by repeat (first | exact Rem.head | apply Rem.tail)) ?_ | exact Sbp.app | refine Sbp.skip ?_)), ?_⟩
            refine RT.takeOn (i := 20) (dj := 45) rfl rfl (congrArg Value.bool hb2) (by kernel_rfl) rfl (QO.eql (by rfl) (by rfl)) ?_
            refine RT.take (i := 21) rfl (by kernel_rfl) rfl (QO.pickT (by rfl) hb2 (by rfl)) ?_
            refine RT.take (i := 22) rfl (by kernel_rfl) rfl (QO.assign) ?_
            refine RT.done (by kernel_rfl) ?_
            refine blockC_n ?_
            refine thenC_n ?_
            refine CS.region ?_
            first | (refine RS.q rfl (QO.add (by rfl) (by rfl) (by omega) (by omega)) ?_) | (refine RS.q rfl (QO.ibin (by rfl) (by rfl) trivial) ?_)
            refine RS.q rfl (QO.move) ?_
            refine RS.nil ?_
            refine loopQ_n (by intro t ht; repeat (first | with_reducible exact rfl | exact frame_puts ht (frame_mix ht) _ rfl | (refine frame_put rfl ht ?_) | (refine frame_puts ht ?_ _ rfl) | exact frame_mix ht | (refine frame_mix2 rfl ht ?_) | exact rfl)) ?_
            exact ⟨cc + 1, by omega, by omega, kn_cons (by rfl) (kn_cons (congrArg Value.bool (sameK_T (by assumption))) kn_nil), (by repeat (first | exact List.Sublist.refl _ | exact List.nil_sublist _ | refine List.Sublist.cons_cons _ ?_ | refine List.Sublist.cons _ ?_ | exact Sbp.refl | exact Sbp.nil | refine Sbp.cons (by repeat (first | exact Rem.head | apply Rem.tail)) ?_ | exact Sbp.app | refine Sbp.skip ?_))⟩
          · refine RT.takeOff (i := 2) (dj := 45) rfl rfl (.inl (congrArg Value.bool hb2)) (fun _ => rfl) (by kernel_rfl) rfl ?_
            refine RT.takeOff (i := 3) (dj := 45) rfl rfl (.inl (congrArg Value.bool hb2)) (fun _ => rfl) (by kernel_rfl) rfl ?_
            refine RT.takeOff (i := 4) (dj := 45) rfl rfl (.inl (congrArg Value.bool hb2)) (fun _ => rfl) (by kernel_rfl) rfl ?_
            refine RT.takeOff (i := 5) (dj := 45) rfl rfl (.inl (congrArg Value.bool hb2)) (fun _ => rfl) (by kernel_rfl) rfl ?_
            refine RT.takeOff (i := 6) (dj := 45) rfl rfl (.inl (congrArg Value.bool hb2)) (fun _ => rfl) (by kernel_rfl) rfl ?_
            refine RT.takeOff (i := 7) (dj := 45) rfl rfl (.inl (congrArg Value.bool hb2)) (fun _ => rfl) (by kernel_rfl) rfl ?_
            refine RT.takeOff (i := 8) (dj := 45) rfl rfl (.inl (congrArg Value.bool hb2)) (fun _ => rfl) (by kernel_rfl) rfl ?_
            refine RT.takeOff (i := 9) (dj := 45) rfl rfl (.inl (congrArg Value.bool hb2)) (fun _ => rfl) (by kernel_rfl) rfl ?_
            refine RT.takeOff (i := 11) (dj := 45) rfl rfl (.inl (congrArg Value.bool hb2)) (fun _ => rfl) (by kernel_rfl) rfl ?_
            refine RT.takeOff (i := 12) (dj := 45) rfl rfl (.inl (congrArg Value.bool hb2)) (fun _ => rfl) (by kernel_rfl) rfl ?_
            refine RT.takeOff (i := 13) (dj := 45) rfl rfl (.inl (congrArg Value.bool hb2)) (fun _ => rfl) (by kernel_rfl) rfl ?_
            refine RT.takeOff (i := 14) (dj := 45) rfl rfl (.inl (congrArg Value.bool hb2)) (fun _ => rfl) (by kernel_rfl) rfl ?_
            refine RT.takeOff (i := 15) (dj := 45) rfl rfl (.inl (congrArg Value.bool hb2)) (fun _ => rfl) (by kernel_rfl) rfl ?_
            refine RT.takeOff (i := 16) (dj := 45) rfl rfl (.inl (congrArg Value.bool hb2)) (fun _ => rfl) (by kernel_rfl) rfl ?_
            refine RT.takeOff (i := 17) (dj := 45) rfl rfl (.inl (congrArg Value.bool hb2)) (fun _ => rfl) (by kernel_rfl) rfl ?_
            refine RT.takeOff (i := 18) (dj := 45) rfl rfl (.inl (congrArg Value.bool hb2)) (fun _ => rfl) (by kernel_rfl) rfl ?_
            refine RT.one (i := 10) (by kernel_rfl) rfl rfl ?_
            refine RS.off (dj := 45) rfl (.inl (congrArg Value.bool hb2)) (fun _ => rfl) rfl ?_
            refine RS.nil ⟨(by repeat (first | exact List.Sublist.refl _ | exact List.nil_sublist _ | refine List.Sublist.cons_cons _ ?_ | refine List.Sublist.cons _ ?_ | exact Sbp.refl | exact Sbp.nil | refine Sbp.cons (by repeat (first | exact Rem.head | apply Rem.tail)) ?_ | exact Sbp.app | refine Sbp.skip ?_)), ?_⟩
            refine RT.one (i := 19) (by kernel_rfl) rfl rfl ?_
            refine RS.off (dj := 45) rfl (.inl (congrArg Value.bool hb2)) (fun _ => rfl) rfl ?_
            refine RS.nil ⟨(by repeat (first | exact List.Sublist.refl _ | exact List.nil_sublist _ | refine List.Sublist.cons_cons _ ?_ | refine List.Sublist.cons _ ?_ | exact Sbp.refl | exact Sbp.nil | refine Sbp.cons (by repeat (first | exact Rem.head | apply Rem.tail)) ?_ | exact Sbp.app | refine Sbp.skip ?_)), ?_⟩
            refine RT.takeOff (i := 20) (dj := 45) rfl rfl (.inl (congrArg Value.bool hb2)) (fun _ => rfl) (by kernel_rfl) rfl ?_
            refine RT.take (i := 21) rfl (by kernel_rfl) rfl (QO.pickF (by rfl) hb2 (by rfl)) ?_
            refine RT.take (i := 22) rfl (by kernel_rfl) rfl (QO.assign) ?_
            refine RT.done (by kernel_rfl) ?_
            refine blockC_n ?_
            refine thenC_n ?_
            refine CS.region ?_
            first | (refine RS.q rfl (QO.add (by rfl) (by rfl) (by omega) (by omega)) ?_) | (refine RS.q rfl (QO.ibin (by rfl) (by rfl) trivial) ?_)
            refine RS.q rfl (QO.move) ?_
            refine RS.nil ?_
            refine loopQ_n (by intro t ht; repeat (first | with_reducible exact rfl | exact frame_puts ht (frame_mix ht) _ rfl | (refine frame_put rfl ht ?_) | (refine frame_puts ht ?_ _ rfl) | exact frame_mix ht | (refine frame_mix2 rfl ht ?_) | exact rfl)) ?_
            exact ⟨cc + 1, by omega, by omega, kn_cons (by rfl) (kn_cons (congrArg Value.bool (sameK_F (by assumption))) kn_nil), (by repeat (first | exact List.Sublist.refl _ | exact List.nil_sublist _ | refine List.Sublist.cons_cons _ ?_ | refine List.Sublist.cons _ ?_ | exact Sbp.refl | exact Sbp.nil | refine Sbp.cons (by repeat (first | exact Rem.head | apply Rem.tail)) ?_ | exact Sbp.app | refine Sbp.skip ?_))⟩
        · have hb1p := of_decide_eq_false hb1
          refine CS.exit ?_
          refine thenC_x ?_
          refine loopQ_x ?_
          refine blockC_x ?_
          refine thenC_n ?_
          refine CS.seq ?_
          refine CS.seq ?_
          refine CS.region ?_
          obtain rfl : cc = 4 := by omega
          refine RS.q rfl (QO.move) ?_
          refine RS.nil ?_
          refine thenC_n ?_
          refine CS.cond (by rfl) (fun hb3 => ?_) (fun hb3 => ?_)
          · refine CS.exit ?_
            refine thenC_x ?_
            refine blockC_x ?_
            refine thenC_n ?_
            refine CS.region ?_
            first | (refine RS.q rfl (QO.add (by rfl) (by rfl) (by omega) (by omega)) ?_) | (refine RS.q rfl (QO.ibin (by rfl) (by rfl) trivial) ?_)
            refine RS.q rfl (QO.move) ?_
            refine RS.nil ?_
            refine loopQ_n (by intro t ht; repeat (first | with_reducible exact rfl | exact frame_puts ht (frame_mix ht) _ rfl | (refine frame_put rfl ht ?_) | (refine frame_puts ht ?_ _ rfl) | exact frame_mix ht | (refine frame_mix2 rfl ht ?_) | exact rfl)) ?_
            exact ⟨(k + 1, L, T, R, B), ⟨by show k + 1 ≤ a * b; omega, boxOK_same hbox ‹sameK ys zs k 4 = true›, hL, hT, hR, hB⟩, by show a * b - (k + 1) < a * b - k; omega, kn_cons (by rfl) (kn_cons (congrArg iv (congrArg Nat.cast (cnt_same ‹sameK ys zs k 4 = true›))) (by repeat (first | exact kn_nil | refine kn_cons (by rfl) ?_))), (by repeat (first | exact List.Sublist.refl _ | exact List.nil_sublist _ | refine List.Sublist.cons_cons _ ?_ | refine List.Sublist.cons _ ?_ | exact Sbp.refl | exact Sbp.nil | refine Sbp.cons (by repeat (first | exact Rem.head | apply Rem.tail)) ?_ | exact Sbp.app | refine Sbp.skip ?_))⟩
          · refine CS.skip ?_
            refine thenC_n ?_
            refine CS.seq ?_
            refine CS.region ?_
            have hkm : k % a < a := Nat.mod_lt _ (by omega)
            have hkd : k / a < b := div_lt_of ha.1 (by omega)
            have hkc := cnt_le ys zs k
            obtain ⟨qm, hqm⟩ : ∃ q : Nat, k % a = q := ⟨_, rfl⟩
            obtain ⟨qd, hqd⟩ : ∃ q : Nat, k / a = q := ⟨_, rfl⟩
            rw [hqm] at hkm
            rw [hqd] at hkd
            refine RS.q rfl (QO.move) ?_
            first | (refine RS.q rfl (QO.add (by rfl) (by rfl) (by omega) (by omega)) ?_) | (refine RS.q rfl (QO.ibin (by rfl) (by rfl) trivial) ?_)
            refine RS.q rfl (QO.assign) ?_
            refine RS.nil ?_
            refine thenC_n ?_
            refine CS.seq ?_
            refine CS.draw 12 rfl (by kernel_rfl) (by kernel_rfl) ?_
            refine RT.take (i := 0) rfl (by kernel_rfl) rfl (QO.move) ?_
            refine RT.take (i := 1) rfl (by kernel_rfl) rfl (QO.fieldAddr fo26_0 (by rfl)) ?_
            refine RT.take (i := 2) rfl (by kernel_rfl) rfl (QO.fieldAddr fo23_2 (by rfl)) ?_
            first | (refine RT.take (i := 3) rfl (by kernel_rfl) rfl (QO.load ty3 (by rfl) (by repeat (first | exact List.Mem.head _ | refine List.Mem.tail _ ?_)) (by rfl)) ?_) | (refine RT.take (i := 3) rfl (by kernel_rfl) rfl (QO.loadO ty3 (by rfl) (by assumption)) ?_) | (refine RT.take (i := 3) rfl (by kernel_rfl) rfl (QO.load ty3 (by rfl) (by repeat (first | exact List.Mem.head _ | refine List.Mem.tail _ ?_)) (by assumption)) ?_)
            refine RT.takev (i := 4) rfl (by kernel_rfl) rfl (QO.rem (by rfl) (by rfl) (by omega)) (congrArg iv (show ((k : Int)).tmod (a : Int) = (qm : Int) from by rw [tmod_cast, hqm])) ?_
            refine RT.take (i := 5) rfl (by kernel_rfl) rfl (QO.move) ?_
            refine RT.take (i := 6) rfl (by kernel_rfl) rfl (QO.fieldAddr fo26_0 (by rfl)) ?_
            refine RT.take (i := 7) rfl (by kernel_rfl) rfl (QO.fieldAddr fo23_2 (by rfl)) ?_
            first | (refine RT.take (i := 8) rfl (by kernel_rfl) rfl (QO.load ty3 (by rfl) (by repeat (first | exact List.Mem.head _ | refine List.Mem.tail _ ?_)) (by rfl)) ?_) | (refine RT.take (i := 8) rfl (by kernel_rfl) rfl (QO.loadO ty3 (by rfl) (by assumption)) ?_) | (refine RT.take (i := 8) rfl (by kernel_rfl) rfl (QO.load ty3 (by rfl) (by repeat (first | exact List.Mem.head _ | refine List.Mem.tail _ ?_)) (by assumption)) ?_)
            refine RT.takev (i := 9) rfl (by kernel_rfl) rfl (QO.quo (by rfl) (by rfl) (by omega) (by omega) (by omega)) (congrArg iv (show ((k : Int)).tdiv (a : Int) = (qd : Int) from by rw [tdiv_cast, hqd])) ?_
            refine RT.take (i := 10) rfl (by kernel_rfl) rfl (QO.assign) ?_
            refine RT.take (i := 11) rfl (by kernel_rfl) rfl (QO.assign) ?_
            refine RT.done (by kernel_rfl) ?_
            refine thenC_n ?_
            refine CS.region ?_
            refine RS.q rfl (QO.move) ?_
            refine RS.q rfl (QO.move) ?_
            refine RS.q rfl (QO.min2 (by rfl) (by rfl)) ?_
            refine RS.q rfl (QO.move) ?_
            refine RS.q rfl (QO.move) ?_
            refine RS.q rfl (QO.min2 (by rfl) (by rfl)) ?_
            refine RS.q rfl (QO.move) ?_
            refine RS.q rfl (QO.move) ?_
            first | (refine RS.q rfl (QO.add (by rfl) (by rfl) (by omega) (by omega)) ?_) | (refine RS.q rfl (QO.ibin (by rfl) (by rfl) trivial) ?_)
            refine RS.q rfl (QO.max2 (by rfl) (by rfl)) ?_
            refine RS.q rfl (QO.move) ?_
            refine RS.q rfl (QO.move) ?_
            first | (refine RS.q rfl (QO.add (by rfl) (by rfl) (by omega) (by omega)) ?_) | (refine RS.q rfl (QO.ibin (by rfl) (by rfl) trivial) ?_)
            refine RS.q rfl (QO.max2 (by rfl) (by rfl)) ?_
            refine RS.q rfl (QO.assign) ?_
            refine RS.q rfl (QO.assign) ?_
            refine RS.q rfl (QO.assign) ?_
            refine RS.q rfl (QO.assign) ?_
            refine RS.nil ?_
            refine blockC_n ?_
            refine thenC_n ?_
            refine CS.region ?_
            first | (refine RS.q rfl (QO.add (by rfl) (by rfl) (by omega) (by omega)) ?_) | (refine RS.q rfl (QO.ibin (by rfl) (by rfl) trivial) ?_)
            refine RS.q rfl (QO.move) ?_
            refine RS.nil ?_
            refine loopQ_n (by intro t ht; repeat (first | with_reducible exact rfl | exact frame_puts ht (frame_mix ht) _ rfl | (refine frame_put rfl ht ?_) | (refine frame_puts ht ?_ _ rfl) | exact frame_mix ht | (refine frame_mix2 rfl ht ?_) | exact rfl)) ?_
            exact ⟨(k + 1, min L (qm : Int), min T (qd : Int), max R ((qm : Int) + 1), max B ((qd : Int) + 1)), ⟨by show k + 1 ≤ a * b; omega, by have hbd := boxOK_diff hbox; rw [hqm, hqd] at hbd; exact hbd, min_bd hL, min_bd hT, max_bd hR (by omega), max_bd hB (by omega)⟩, by show a * b - (k + 1) < a * b - k; omega, kn_cons (by rfl) (kn_cons (congrArg iv (show ((cnt ys zs k : Nat) : Int) + 1 = (cnt ys zs (k + 1) : Nat) by rw [← cnt_diff ‹sameK ys zs k 4 = false›]; omega)) (by repeat (first | exact kn_nil | refine kn_cons (by rfl) ?_))), (by repeat (first | exact List.Sublist.refl _ | exact List.nil_sublist _ | refine List.Sublist.cons_cons _ ?_ | refine List.Sublist.cons _ ?_ | exact Sbp.refl | exact Sbp.nil | refine Sbp.cons (by repeat (first | exact Rem.head | apply Rem.tail)) ?_ | exact Sbp.app | refine Sbp.skip ?_))⟩
    · have hb0p := of_decide_eq_false hb0
      refine CS.exit ?_
      refine thenC_x ?_
      refine loopQ_x ?_
      refine blockC_x ?_
      refine thenC_n ?_
      refine CS.seq ?_
      refine CS.seq ?_
      refine CS.region ?_
      obtain rfl : k = a * b := by omega
      refine RS.q rfl (QO.move) ?_
      refine RS.q rfl (QO.eql (by rfl) (by rfl)) ?_
      refine RS.nil ?_
      refine thenC_n ?_
      refine CS.cond (by rfl) (fun hb4 => ?_) (fun hb4 => ?_)
      · have hb4p := eq_of_beq hb4
        refine CS.seq ?_
        refine CS.region ?_
        refine RS.q rfl (QO.build ty23 pl23 (by rfl)) ?_
        first | refine RS.storeB ty23 (by rfl) (by rfl) (by rfl) (by rfl) (by rfl) (by repeat (first | exact Upd.head | apply Upd.tail)) (by rfl) ?_ | refine RS.storeP ty23 (by rfl) (by rfl) (by rfl) (by rfl) (by rfl) (by repeat (first | exact Upd.head | apply Upd.tail)) (by rfl) ?_
        refine RS.q rfl (QO.assign) ?_
        refine RS.q rfl (QO.assign) ?_
        refine RS.nil ?_
        refine thenC_n ?_
        refine CS.ret ?_
        refine thenC_r ?_
        refine retQ.mk (H' := []) (.inr rfl) (RVs.cellA ty23 (by rfl) (by repeat (first | exact List.Mem.head _ | refine List.Mem.tail _ ?_)) (by rfl) (RVs.tmp (by rfl) (RVs.tmp (by rfl) RVs.nil))) (List.nil_sublist _) ?_
        have h0 : ((cnt ys zs (a * b) : Nat) : Int) = 0 := by assumption
        exact ⟨0, 0, 0, 0, congrArg (fun q : Int => Value.tuple #[.agg #[iv 0, iv 0, iv 0, iv 0], iv q, iv 0]) h0.symm, rfl, by omega, by omega, by omega, by omega, fun i hi hd => by rw [cnt_zero (by omega) i hi] at hd; cases hd⟩
      · have hb4p := ne_of_beq_false hb4
        refine CS.skip ?_
        refine thenC_n ?_
        refine CS.seq ?_
        refine CS.region ?_
        refine RS.q rfl (QO.fieldAddr fo26_0 (by rfl)) ?_
        refine RS.q rfl (QO.fieldAddr fo23_0 (by rfl)) ?_
        first | (refine RS.q rfl (QO.load ty3 (by rfl) (by repeat (first | exact List.Mem.head _ | refine List.Mem.tail _ ?_)) (by rfl)) ?_) | (refine RS.q rfl (QO.loadO ty3 (by rfl) (by assumption)) ?_) | (refine RS.q rfl (QO.load ty3 (by rfl) (by repeat (first | exact List.Mem.head _ | refine List.Mem.tail _ ?_)) (by assumption)) ?_)
        refine RS.q rfl (QO.move) ?_
        first | (refine RS.q rfl (QO.add (by rfl) (by rfl) (by omega) (by omega)) ?_) | (refine RS.q rfl (QO.ibin (by rfl) (by rfl) trivial) ?_)
        refine RS.q rfl (QO.fieldAddr fo26_0 (by rfl)) ?_
        refine RS.q rfl (QO.fieldAddr fo23_1 (by rfl)) ?_
        first | (refine RS.q rfl (QO.load ty3 (by rfl) (by repeat (first | exact List.Mem.head _ | refine List.Mem.tail _ ?_)) (by rfl)) ?_) | (refine RS.q rfl (QO.loadO ty3 (by rfl) (by assumption)) ?_) | (refine RS.q rfl (QO.load ty3 (by rfl) (by repeat (first | exact List.Mem.head _ | refine List.Mem.tail _ ?_)) (by assumption)) ?_)
        refine RS.q rfl (QO.move) ?_
        first | (refine RS.q rfl (QO.add (by rfl) (by rfl) (by omega) (by omega)) ?_) | (refine RS.q rfl (QO.ibin (by rfl) (by rfl) trivial) ?_)
        refine RS.q rfl (QO.move) ?_
        refine RS.q rfl (QO.move) ?_
        first | (refine RS.q rfl (QO.sub (by rfl) (by rfl) (by omega) (by omega)) ?_) | (refine RS.q rfl (QO.ibin (by rfl) (by rfl) trivial) ?_)
        refine RS.q rfl (QO.move) ?_
        refine RS.q rfl (QO.move) ?_
        first | (refine RS.q rfl (QO.sub (by rfl) (by rfl) (by omega) (by omega)) ?_) | (refine RS.q rfl (QO.ibin (by rfl) (by rfl) trivial) ?_)
        refine RS.q rfl (QO.build ty23 pl23 (by rfl)) ?_
        refine RS.q rfl (QO.move) ?_
        first | refine RS.storeB ty23 (by rfl) (by rfl) (by rfl) (by rfl) (by rfl) (by repeat (first | exact Upd.head | apply Upd.tail)) (by rfl) ?_ | refine RS.storeP ty23 (by rfl) (by rfl) (by rfl) (by rfl) (by rfl) (by repeat (first | exact Upd.head | apply Upd.tail)) (by rfl) ?_
        refine RS.q rfl (QO.assign) ?_
        refine RS.q rfl (QO.assign) ?_
        refine RS.nil ?_
        refine thenC_n ?_
        refine CS.ret ?_
        refine retQ.mk (H' := []) (.inr rfl) (RVs.cellA ty23 (by rfl) (by repeat (first | exact List.Mem.head _ | refine List.Mem.tail _ ?_)) (by rfl) (RVs.tmp (by rfl) (RVs.tmp (by rfl) RVs.nil))) (List.nil_sublist _) ?_
        exact ⟨X + L, Y + T, R - L, B - T, rfl, rfl, by omega, by omega, by omega, by omega, fun i hi hd => insB_box (hbox i hi hd)⟩

end Go.Proofs.Ytplfeaikjgfhcaa
