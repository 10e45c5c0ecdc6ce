/-
  Contracts: bands, lumas, frames repainted. Conditions: as each theorem says.
-/
import Derived.Test.YtplfeaikjgfhcaaC12
import Derived.Test.YtplfeaikjgfhcaaBands
namespace Go.Proofs.Ytplfeaikjgfhcaa
open Go Go.Proofs Go.RowKit

theorem ty96 : tyChk Try.prog 96 = some ([.float .f32 0, .float .f32 0, .float .f32 0], true, 12) := by kernel_rfl
theorem ty97 : tyChk Try.prog 97 = some ([.slice none 0 0], false, 24) := by kernel_rfl
theorem ty163 : tyChk Try.prog 163 = some ([.float .f32 0, .float .f32 0, .float .f32 0, .float .f32 0, .float .f32 0], true, 20) := by kernel_rfl
theorem fo163_0 : fldOff Try.prog 163 0 = some (0, 33) := by kernel_rfl
theorem fo163_1 : fldOff Try.prog 163 1 = some (1, 35) := by kernel_rfl
theorem ok75 : callOK Try.prog 75 = true := by kernel_rfl
theorem ok76 : callOK Try.prog 76 = true := by kernel_rfl
theorem ok127 : callOK Try.prog 127 = true := by kernel_rfl
theorem ok129 : callOK Try.prog 129 = true := by kernel_rfl
theorem ok167 : callOK Try.prog 167 = true := by kernel_rfl
theorem ok170 : callOK Try.prog 170 = true := by kernel_rfl
theorem ok171 : callOK Try.prog 171 = true := by kernel_rfl
theorem ok172 : callOK Try.prog 172 = true := by kernel_rfl
theorem ok175 : callOK Try.prog 175 = true := by kernel_rfl
theorem ok216 : callOK Try.prog 216 = true := by kernel_rfl
theorem ok217 : callOK Try.prog 217 = true := by kernel_rfl

set_option maxRecDepth 100000 in
theorem infinite (v : Nat) (W : World) : Fn_ Try.prog 216 #[flt v] W (fun v_ H => v_ = .bool (fcmpB .gtr v 2139095039 || fcmpB .lss v 4286578687) ∧ H = []) := by
  refine Fn_.intro Try.func216 rfl rfl (by rfl) ?_
  refine CS.seq ?_
  refine CS.region ?_
  refine RS.q rfl (QO.assign) ?_
  refine RS.nil ?_
  refine thenC_n ?_
  refine CS.seq ?_
  refine CS.region ?_
  refine RS.q rfl (QO.move) ?_
  refine RS.q rfl (QO.fcmp32 (by rfl) (by rfl) (by simp)) ?_
  refine RS.q rfl (QO.move) ?_
  refine RS.split (dj := 5) (by rfl) (fun hb0 => ?_) (fun hb0 => ?_)
  · refine RS.off (dj := 5) rfl (.inl (congrArg Value.bool hb0)) (fun _ => rfl) rfl ?_
    refine RS.off (dj := 5) rfl (.inl (congrArg Value.bool hb0)) (fun _ => rfl) rfl ?_
    refine RS.q rfl (QO.pickT (by rfl) hb0 (by rfl)) ?_
    refine RS.q rfl (QO.assign) ?_
    refine RS.nil ?_
    refine thenC_n ?_
    refine CS.ret ?_
    refine retQ.mk (H' := []) (.inr rfl) (RVs.tmp (by rfl) RVs.nil) (List.nil_sublist _) ?_
    exact ⟨congrArg Value.bool (by rw [hb0]; rfl), rfl⟩
  · refine RS.on (dj := 5) rfl (congrArg Value.bool hb0) ?_
    refine RS.q rfl (QO.move) ?_
    refine RS.on (dj := 5) rfl (congrArg Value.bool hb0) ?_
    refine RS.q rfl (QO.fcmp32 (by rfl) (by rfl) (by simp)) ?_
    refine RS.q rfl (QO.pickF (by rfl) hb0 (by rfl)) ?_
    refine RS.q rfl (QO.assign) ?_
    refine RS.nil ?_
    refine thenC_n ?_
    refine CS.ret ?_
    refine retQ.mk (H' := []) (.inr rfl) (RVs.tmp (by rfl) RVs.nil) (List.nil_sublist _) ?_
    exact ⟨congrArg Value.bool (by rw [hb0]; rfl), rfl⟩

set_option maxRecDepth 100000 in
theorem isNumber (v : Nat) (W : World) : Fn_ Try.prog 170 #[flt v] W (fun v_ H => v_ = .bool (numB v) ∧ H = []) := by
  refine Fn_.intro Try.func170 rfl rfl (by rfl) ?_
  refine CS.seq ?_
  refine CS.region ?_
  refine RS.q rfl (QO.assign) ?_
  refine RS.nil ?_
  refine thenC_n ?_
  refine CS.seq ?_
  refine CS.region ?_
  refine RS.q rfl (QO.move) ?_
  refine RS.q rfl (QO.move) ?_
  refine RS.q rfl (QO.fcmp32 (by rfl) (by rfl) (by simp)) ?_
  refine RS.q rfl (QO.move) ?_
  refine RS.split (dj := 6) (by rfl) (fun hb0 => ?_) (fun hb0 => ?_)
  · refine RS.on (dj := 6) rfl (congrArg Value.bool hb0) ?_
    refine RS.q rfl (QO.move) ?_
    refine RS.on (dj := 6) rfl (congrArg Value.bool hb0) ?_
    refine RS.call rfl (by rfl) ok216 (by rfl) (fun w ho => infinite _ _) ?_
    rintro _ _ ⟨rfl, rfl⟩
    refine RS.on (dj := 6) rfl (congrArg Value.bool hb0) ?_
    refine RS.q rfl (QO.not (by rfl)) ?_
    refine RS.q rfl (QO.pickT (by rfl) hb0 (by rfl)) ?_
    refine RS.q rfl (QO.assign) ?_
    refine RS.nil ?_
    refine thenC_n ?_
    refine CS.ret ?_
    refine retQ.mk (H' := []) (.inr rfl) (RVs.tmp (by rfl) RVs.nil) (List.nil_sublist _) ?_
    exact ⟨congrArg Value.bool (by rw [← isnum_1, hb0]; rfl), rfl⟩
  · refine RS.off (dj := 6) rfl (.inl (congrArg Value.bool hb0)) (fun _ => rfl) rfl ?_
    refine RS.off (dj := 6) rfl (.inl (congrArg Value.bool hb0)) (fun _ => rfl) rfl ?_
    refine RS.off (dj := 6) rfl (.inl (congrArg Value.bool hb0)) (fun _ => rfl) rfl ?_
    refine RS.q rfl (QO.pickF (by rfl) hb0 (by rfl)) ?_
    refine RS.q rfl (QO.assign) ?_
    refine RS.nil ?_
    refine thenC_n ?_
    refine CS.ret ?_
    refine retQ.mk (H' := []) (.inr rfl) (RVs.tmp (by rfl) RVs.nil) (List.nil_sublist _) ?_
    exact ⟨congrArg Value.bool (by rw [← isnum_1, hb0]; rfl), rfl⟩

set_option maxRecDepth 100000 in
theorem risNumber (v : Nat) (W : World) : Fn_ Try.prog 171 #[flt v] W (fun v_ H => v_ = .bool (numB v) ∧ H = []) := by
  refine Fn_.intro Try.func171 rfl rfl (by rfl) ?_
  refine CS.seq ?_
  refine CS.region ?_
  refine RS.q rfl (QO.assign) ?_
  refine RS.nil ?_
  refine thenC_n ?_
  refine CS.seq ?_
  refine CS.region ?_
  refine RS.q rfl (QO.move) ?_
  refine RS.q rfl (QO.move) ?_
  refine RS.farith rfl (by rfl) (by rfl) (by simp) ?_
  intro r5 hr5
  refine RS.q rfl (QO.fcmp32 (by rfl) (by rfl) (by simp)) ?_
  refine RS.q rfl (QO.assign) ?_
  refine RS.nil ?_
  refine thenC_n ?_
  refine CS.ret ?_
  refine retQ.mk (H' := []) (.inr rfl) (RVs.tmp (by rfl) RVs.nil) (List.nil_sublist _) ?_
  exact ⟨congrArg Value.bool (isnum_2 hr5), rfl⟩

set_option maxRecDepth 100000 in
theorem allNumbers (A : Option Addr) (n c : Nat) (xs : List Nat) (W : World) (hn : xs.length = n) (hA : FS W A xs) (hm : n ≤ maxLen) : Fn_ Try.prog 129 #[.slice A n c] W (fun v H => v = .bool (numsB xs) ∧ H = []) := by
  subst hn
  unfold maxLen at hm
  refine Fn_.intro Try.func129 rfl rfl (by rfl) ?_
  refine CS.seq ?_
  refine CS.region ?_
  refine RS.q rfl (QO.assign) ?_
  refine RS.nil ?_
  refine thenC_n ?_
  refine CS.seq ?_
  refine CS.seq ?_
  refine CS.region ?_
  refine RS.q rfl (QO.move) ?_
  refine RS.q rfl (QO.lenS Try.underlying24 (by rfl)) ?_
  refine RS.q rfl (QO.move) ?_
  refine RS.nil ?_
  refine thenC_n ?_
  refine CS.block ?_
  refine CS.loop (X := Nat) [2, 4, 7, 8, 9, 10, 11, 12, 13, 14] (fun k => [(7, iv (k : Int))]) (fun k => []) (fun k => k ≤ xs.length ∧ ∀ i (hi : i < xs.length), i < k → numB xs[i] = true) (fun k => xs.length - k) 0 ⟨Nat.zero_le _, fun i hi h => absurd h (Nat.not_lt_zero _)⟩ ?_ ?_ ?_
  · exact (by repeat (first | exact kn_nil | refine kn_cons (by rfl) ?_))
  · exact (by repeat (first | exact List.Sublist.refl _ | exact List.nil_sublist _ | refine List.Sublist.cons_cons _ ?_ | refine List.Sublist.cons _ ?_ | exact Sbp.refl | exact Sbp.nil | refine Sbp.cons (by repeat (first | exact Rem.head | apply Rem.tail)) ?_ | exact Sbp.app | refine Sbp.skip ?_))
  · intro k gj2 hz
    obtain ⟨hk, hz⟩ := hz
    refine CS.seq ?_
    refine CS.region ?_
    refine RS.q rfl (QO.lss (by rfl) (by rfl)) ?_
    refine RS.nil ?_
    refine thenC_n ?_
    refine CS.seq ?_
    refine CS.cond (by rfl) (fun hb0 => ?_) (fun hb0 => ?_)
    · have hb0p := of_decide_eq_true hb0
      refine CS.skip ?_
      refine thenC_n ?_
      refine CS.seq ?_
      refine CS.block ?_
      refine CS.seq ?_
      refine CS.region ?_
      have hlt : k < xs.length := by omega
      obtain ⟨bA, oA, rfl, hcell⟩ := hA (by omega)
      first | (refine RS.q rfl (QO.idx0 Try.underlying24 ty33 (by rfl) (by rfl) (by rfl) (by omega)) ?_) | (refine RS.q rfl (QO.idxn Try.underlying24 ty33 (by rfl) (by rfl) (by rfl) (by omega)) ?_) | (refine RS.q rfl (QO.idx1 Try.underlying24 ty33 (by rfl) (by rfl) (by omega) (by omega)) ?_)
      refine RS.q rfl (QO.loadO ty33 (by rfl) (hcell _ _ (List.getElem?_eq_getElem hlt))) ?_
      refine RS.q rfl (QO.assign) ?_
      refine RS.nil ?_
      refine thenC_n ?_
      refine CS.seq ?_
      refine CS.region ?_
      refine RS.q rfl (QO.move) ?_
      refine RS.call rfl (by rfl) ok170 (by rfl) (fun w ho => isNumber _ _) ?_
      rintro _ _ ⟨rfl, rfl⟩
      refine RS.q rfl (QO.not (by rfl)) ?_
      refine RS.nil ?_
      refine thenC_n ?_
      refine CS.cond (by rfl) (fun hb1 => ?_) (fun hb1 => ?_)
      · have hb1p := Eq.mp (Bool.not_eq_true' _) hb1
        refine CS.seq ?_
        refine CS.region ?_
        refine RS.q rfl (QO.assign) ?_
        refine RS.nil ?_
        refine thenC_n ?_
        refine CS.ret ?_
        refine blockC_r ?_
        refine thenC_r ?_
        refine loopQ_r ?_
        refine blockC_r ?_
        refine thenC_r ?_
        refine retQ.mk (H' := []) (.inr rfl) (RVs.tmp (by rfl) RVs.nil) (List.nil_sublist _) ?_
        exact ⟨congrArg Value.bool (nums_F hlt hb1p), rfl⟩
      · have hb1p := Eq.mp (Bool.not_eq_false' _) hb1
        refine CS.skip ?_
        refine blockC_n ?_
        refine thenC_n ?_
        refine CS.region ?_
        first | (refine RS.q rfl (QO.add (by rfl) (by rfl) (by omega) (by omega)) ?_) | (refine RS.q rfl (QO.ibin (by rfl) (by rfl) trivial) ?_)
        refine RS.q rfl (QO.move) ?_
        refine RS.nil ?_
        refine loopQ_n (by intro t ht; repeat (first | with_reducible exact rfl | exact frame_puts ht (frame_mix ht) _ rfl | (refine frame_put rfl ht ?_) | (refine frame_puts ht ?_ _ rfl) | exact frame_mix ht | (refine frame_mix2 rfl ht ?_) | exact rfl)) ?_
        exact ⟨k + 1, ⟨by omega, fun i hi h => by
            by_cases e : i = k
            · subst e; exact hb1p
            · exact hz i hi (by omega)⟩, by omega, (by repeat (first | exact kn_nil | refine kn_cons (by rfl) ?_)), (by repeat (first | exact List.Sublist.refl _ | exact List.nil_sublist _ | refine List.Sublist.cons_cons _ ?_ | refine List.Sublist.cons _ ?_ | exact Sbp.refl | exact Sbp.nil | refine Sbp.cons (by repeat (first | exact Rem.head | apply Rem.tail)) ?_ | exact Sbp.app | refine Sbp.skip ?_))⟩
    · have hb0p := of_decide_eq_false hb0
      refine CS.exit ?_
      refine thenC_x ?_
      refine loopQ_x ?_
      refine blockC_x ?_
      refine thenC_n ?_
      refine CS.seq ?_
      refine CS.region ?_
      refine RS.q rfl (QO.assign) ?_
      refine RS.nil ?_
      refine thenC_n ?_
      refine CS.ret ?_
      refine retQ.mk (H' := []) (.inr rfl) (RVs.tmp (by rfl) RVs.nil) (List.nil_sublist _) ?_
      exact ⟨congrArg Value.bool (nums_T fun i hi => hz i hi (by omega)), rfl⟩

set_option maxRecDepth 100000 in
theorem numbers (A : Option Addr) (n c : Nat) (xs : List Nat) (W : World) (hn : xs.length = n) (hA : FS W A xs) (hm : n ≤ maxLen) : Fn_ Try.prog 127 #[.slice A n c] W (fun v H => v = .bool (numsB xs) ∧ H = []) := by
  subst hn
  unfold maxLen at hm
  refine Fn_.intro Try.func127 rfl rfl (by rfl) ?_
  refine CS.seq ?_
  refine CS.region ?_
  refine RS.q rfl (QO.assign) ?_
  refine RS.nil ?_
  refine thenC_n ?_
  refine CS.seq ?_
  refine CS.seq ?_
  refine CS.region ?_
  refine RS.q rfl (QO.move) ?_
  refine RS.q rfl (QO.lenS Try.underlying24 (by rfl)) ?_
  refine RS.q rfl (QO.move) ?_
  refine RS.nil ?_
  refine thenC_n ?_
  refine CS.block ?_
  refine CS.loop (X := Nat) [2, 4, 7, 8, 9, 10, 11, 12, 13, 14] (fun k => [(7, iv (k : Int))]) (fun k => []) (fun k => k ≤ xs.length ∧ ∀ i (hi : i < xs.length), i < k → numB xs[i] = true) (fun k => xs.length - k) 0 ⟨Nat.zero_le _, fun i hi h => absurd h (Nat.not_lt_zero _)⟩ ?_ ?_ ?_
  · exact (by repeat (first | exact kn_nil | refine kn_cons (by rfl) ?_))
  · exact (by repeat (first | exact List.Sublist.refl _ | exact List.nil_sublist _ | refine List.Sublist.cons_cons _ ?_ | refine List.Sublist.cons _ ?_ | exact Sbp.refl | exact Sbp.nil | refine Sbp.cons (by repeat (first | exact Rem.head | apply Rem.tail)) ?_ | exact Sbp.app | refine Sbp.skip ?_))
  · intro k gj2 hz
    obtain ⟨hk, hz⟩ := hz
    refine CS.seq ?_
    refine CS.region ?_
    refine RS.q rfl (QO.lss (by rfl) (by rfl)) ?_
    refine RS.nil ?_
    refine thenC_n ?_
    refine CS.seq ?_
    refine CS.cond (by rfl) (fun hb0 => ?_) (fun hb0 => ?_)
    · have hb0p := of_decide_eq_true hb0
      refine CS.skip ?_
      refine thenC_n ?_
      refine CS.seq ?_
      refine CS.block ?_
      refine CS.seq ?_
      refine CS.region ?_
      have hlt : k < xs.length := by omega
      obtain ⟨bA, oA, rfl, hcell⟩ := hA (by omega)
      first | (refine RS.q rfl (QO.idx0 Try.underlying24 ty33 (by rfl) (by rfl) (by rfl) (by omega)) ?_) | (refine RS.q rfl (QO.idxn Try.underlying24 ty33 (by rfl) (by rfl) (by rfl) (by omega)) ?_) | (refine RS.q rfl (QO.idx1 Try.underlying24 ty33 (by rfl) (by rfl) (by omega) (by omega)) ?_)
      refine RS.q rfl (QO.loadO ty33 (by rfl) (hcell _ _ (List.getElem?_eq_getElem hlt))) ?_
      refine RS.q rfl (QO.assign) ?_
      refine RS.nil ?_
      refine thenC_n ?_
      refine CS.seq ?_
      refine CS.region ?_
      refine RS.q rfl (QO.move) ?_
      refine RS.call rfl (by rfl) ok171 (by rfl) (fun w ho => risNumber _ _) ?_
      rintro _ _ ⟨rfl, rfl⟩
      refine RS.q rfl (QO.not (by rfl)) ?_
      refine RS.nil ?_
      refine thenC_n ?_
      refine CS.cond (by rfl) (fun hb1 => ?_) (fun hb1 => ?_)
      · have hb1p := Eq.mp (Bool.not_eq_true' _) hb1
        refine CS.seq ?_
        refine CS.region ?_
        refine RS.q rfl (QO.assign) ?_
        refine RS.nil ?_
        refine thenC_n ?_
        refine CS.ret ?_
        refine blockC_r ?_
        refine thenC_r ?_
        refine loopQ_r ?_
        refine blockC_r ?_
        refine thenC_r ?_
        refine retQ.mk (H' := []) (.inr rfl) (RVs.tmp (by rfl) RVs.nil) (List.nil_sublist _) ?_
        exact ⟨congrArg Value.bool (nums_F hlt hb1p), rfl⟩
      · have hb1p := Eq.mp (Bool.not_eq_false' _) hb1
        refine CS.skip ?_
        refine blockC_n ?_
        refine thenC_n ?_
        refine CS.region ?_
        first | (refine RS.q rfl (QO.add (by rfl) (by rfl) (by omega) (by omega)) ?_) | (refine RS.q rfl (QO.ibin (by rfl) (by rfl) trivial) ?_)
        refine RS.q rfl (QO.move) ?_
        refine RS.nil ?_
        refine loopQ_n (by intro t ht; repeat (first | with_reducible exact rfl | exact frame_puts ht (frame_mix ht) _ rfl | (refine frame_put rfl ht ?_) | (refine frame_puts ht ?_ _ rfl) | exact frame_mix ht | (refine frame_mix2 rfl ht ?_) | exact rfl)) ?_
        exact ⟨k + 1, ⟨by omega, fun i hi h => by
            by_cases e : i = k
            · subst e; exact hb1p
            · exact hz i hi (by omega)⟩, by omega, (by repeat (first | exact kn_nil | refine kn_cons (by rfl) ?_)), (by repeat (first | exact List.Sublist.refl _ | exact List.nil_sublist _ | refine List.Sublist.cons_cons _ ?_ | refine List.Sublist.cons _ ?_ | exact Sbp.refl | exact Sbp.nil | refine Sbp.cons (by repeat (first | exact Rem.head | apply Rem.tail)) ?_ | exact Sbp.app | refine Sbp.skip ?_))⟩
    · have hb0p := of_decide_eq_false hb0
      refine CS.exit ?_
      refine thenC_x ?_
      refine loopQ_x ?_
      refine blockC_x ?_
      refine thenC_n ?_
      refine CS.seq ?_
      refine CS.region ?_
      refine RS.q rfl (QO.assign) ?_
      refine RS.nil ?_
      refine thenC_n ?_
      refine CS.ret ?_
      refine retQ.mk (H' := []) (.inr rfl) (RVs.tmp (by rfl) RVs.nil) (List.nil_sublist _) ?_
      exact ⟨congrArg Value.bool (nums_T fun i hi => hz i hi (by omega)), rfl⟩

set_option maxRecDepth 100000 in
theorem luma_ (u q : Nat → Nat) (W : World) : Fn_ Try.prog 217 #[.agg #[flt (u 0), flt (u 1), flt (u 2)], pxv q] W (fun v H => v = flt (lumaV u q) ∧ H = []) := by
  refine Fn_.intro Try.func217 rfl rfl (by rfl) ?_
  refine CS.seq ?_
  refine CS.region ?_
  refine RS.box rfl (by rfl) (by rfl) ?_
  intro g2
  refine RS.box rfl (by rfl) (by rfl) ?_
  intro g3
  refine RS.q rfl (QO.assign) ?_
  refine RS.nil ?_
  refine thenC_n ?_
  refine CS.seq ?_
  refine CS.region ?_
  first | (refine RS.q rfl (QO.idxArr0 Try.underlying96 ty33 (by rfl) (by rfl) (by rfl) (by omega)) ?_) | (refine RS.q rfl (QO.idxArrn Try.underlying96 ty33 (by rfl) (by rfl) (by rfl) (by omega)) ?_) | (refine RS.q rfl (QO.idxArr Try.underlying96 ty33 (by rfl) (by rfl) (by omega) (by omega)) ?_)
  first | (refine RS.q rfl (QO.load ty33 (by rfl) (by repeat (first | exact List.Mem.head _ | refine List.Mem.tail _ ?_)) (by rfl)) ?_) | (refine RS.q rfl (QO.loadO ty33 (by rfl) (by assumption)) ?_) | (refine RS.q rfl (QO.load ty33 (by rfl) (by repeat (first | exact List.Mem.head _ | refine List.Mem.tail _ ?_)) (by assumption)) ?_)
  first | (refine RS.q rfl (QO.idxArr0 Try.underlying35 ty33 (by rfl) (by rfl) (by rfl) (by omega)) ?_) | (refine RS.q rfl (QO.idxArrn Try.underlying35 ty33 (by rfl) (by rfl) (by rfl) (by omega)) ?_) | (refine RS.q rfl (QO.idxArr Try.underlying35 ty33 (by rfl) (by rfl) (by omega) (by omega)) ?_)
  first | (refine RS.q rfl (QO.load ty33 (by rfl) (by repeat (first | exact List.Mem.head _ | refine List.Mem.tail _ ?_)) (by rfl)) ?_) | (refine RS.q rfl (QO.loadO ty33 (by rfl) (by assumption)) ?_) | (refine RS.q rfl (QO.load ty33 (by rfl) (by repeat (first | exact List.Mem.head _ | refine List.Mem.tail _ ?_)) (by assumption)) ?_)
  refine RS.farith rfl (by rfl) (by rfl) (by simp) ?_
  intro r9 hr9
  first | (refine RS.q rfl (QO.idxArr0 Try.underlying96 ty33 (by rfl) (by rfl) (by rfl) (by omega)) ?_) | (refine RS.q rfl (QO.idxArrn Try.underlying96 ty33 (by rfl) (by rfl) (by rfl) (by omega)) ?_) | (refine RS.q rfl (QO.idxArr Try.underlying96 ty33 (by rfl) (by rfl) (by omega) (by omega)) ?_)
  first | (refine RS.q rfl (QO.load ty33 (by rfl) (by repeat (first | exact List.Mem.head _ | refine List.Mem.tail _ ?_)) (by rfl)) ?_) | (refine RS.q rfl (QO.loadO ty33 (by rfl) (by assumption)) ?_) | (refine RS.q rfl (QO.load ty33 (by rfl) (by repeat (first | exact List.Mem.head _ | refine List.Mem.tail _ ?_)) (by assumption)) ?_)
  first | (refine RS.q rfl (QO.idxArr0 Try.underlying35 ty33 (by rfl) (by rfl) (by rfl) (by omega)) ?_) | (refine RS.q rfl (QO.idxArrn Try.underlying35 ty33 (by rfl) (by rfl) (by rfl) (by omega)) ?_) | (refine RS.q rfl (QO.idxArr Try.underlying35 ty33 (by rfl) (by rfl) (by omega) (by omega)) ?_)
  first | (refine RS.q rfl (QO.load ty33 (by rfl) (by repeat (first | exact List.Mem.head _ | refine List.Mem.tail _ ?_)) (by rfl)) ?_) | (refine RS.q rfl (QO.loadO ty33 (by rfl) (by assumption)) ?_) | (refine RS.q rfl (QO.load ty33 (by rfl) (by repeat (first | exact List.Mem.head _ | refine List.Mem.tail _ ?_)) (by assumption)) ?_)
  refine RS.farith rfl (by rfl) (by rfl) (by simp) ?_
  intro r14 hr14
  refine RS.farith rfl (by rfl) (by rfl) (by simp) ?_
  intro r15 hr15
  first | (refine RS.q rfl (QO.idxArr0 Try.underlying96 ty33 (by rfl) (by rfl) (by rfl) (by omega)) ?_) | (refine RS.q rfl (QO.idxArrn Try.underlying96 ty33 (by rfl) (by rfl) (by rfl) (by omega)) ?_) | (refine RS.q rfl (QO.idxArr Try.underlying96 ty33 (by rfl) (by rfl) (by omega) (by omega)) ?_)
  first | (refine RS.q rfl (QO.load ty33 (by rfl) (by repeat (first | exact List.Mem.head _ | refine List.Mem.tail _ ?_)) (by rfl)) ?_) | (refine RS.q rfl (QO.loadO ty33 (by rfl) (by assumption)) ?_) | (refine RS.q rfl (QO.load ty33 (by rfl) (by repeat (first | exact List.Mem.head _ | refine List.Mem.tail _ ?_)) (by assumption)) ?_)
  first | (refine RS.q rfl (QO.idxArr0 Try.underlying35 ty33 (by rfl) (by rfl) (by rfl) (by omega)) ?_) | (refine RS.q rfl (QO.idxArrn Try.underlying35 ty33 (by rfl) (by rfl) (by rfl) (by omega)) ?_) | (refine RS.q rfl (QO.idxArr Try.underlying35 ty33 (by rfl) (by rfl) (by omega) (by omega)) ?_)
  first | (refine RS.q rfl (QO.load ty33 (by rfl) (by repeat (first | exact List.Mem.head _ | refine List.Mem.tail _ ?_)) (by rfl)) ?_) | (refine RS.q rfl (QO.loadO ty33 (by rfl) (by assumption)) ?_) | (refine RS.q rfl (QO.load ty33 (by rfl) (by repeat (first | exact List.Mem.head _ | refine List.Mem.tail _ ?_)) (by assumption)) ?_)
  refine RS.farith rfl (by rfl) (by rfl) (by simp) ?_
  intro r20 hr20
  refine RS.farith rfl (by rfl) (by rfl) (by simp) ?_
  intro r21 hr21
  refine RS.call rfl (by rfl) ok117 (by rfl) (fun w ho => clean _ _) ?_
  rintro _ _ ⟨rfl, rfl⟩
  refine RS.q rfl (QO.assign) ?_
  refine RS.nil ?_
  refine thenC_n ?_
  refine CS.ret ?_
  refine retQ.mk (H' := []) (.inr rfl) (RVs.tmp (by rfl) RVs.nil) (List.nil_sublist _) ?_
  exact ⟨congrArg flt (luma_of hr9 hr14 hr15 hr20 hr21), rfl⟩

set_option maxRecDepth 100000 in
theorem rluma (u q : Nat → Nat) (W : World) : Fn_ Try.prog 175 #[.agg #[flt (u 0), flt (u 1), flt (u 2)], pxv q] W (fun v H => v = flt (lumaV u q) ∧ H = []) := by
  refine Fn_.intro Try.func175 rfl rfl (by rfl) ?_
  refine CS.seq ?_
  refine CS.region ?_
  refine RS.box rfl (by rfl) (by rfl) ?_
  intro g2
  refine RS.box rfl (by rfl) (by rfl) ?_
  intro g3
  refine RS.q rfl (QO.assign) ?_
  refine RS.nil ?_
  refine thenC_n ?_
  refine CS.seq ?_
  refine CS.region ?_
  first | (refine RS.q rfl (QO.idxArr0 Try.underlying96 ty33 (by rfl) (by rfl) (by rfl) (by omega)) ?_) | (refine RS.q rfl (QO.idxArrn Try.underlying96 ty33 (by rfl) (by rfl) (by rfl) (by omega)) ?_) | (refine RS.q rfl (QO.idxArr Try.underlying96 ty33 (by rfl) (by rfl) (by omega) (by omega)) ?_)
  first | (refine RS.q rfl (QO.load ty33 (by rfl) (by repeat (first | exact List.Mem.head _ | refine List.Mem.tail _ ?_)) (by rfl)) ?_) | (refine RS.q rfl (QO.loadO ty33 (by rfl) (by assumption)) ?_) | (refine RS.q rfl (QO.load ty33 (by rfl) (by repeat (first | exact List.Mem.head _ | refine List.Mem.tail _ ?_)) (by assumption)) ?_)
  first | (refine RS.q rfl (QO.idxArr0 Try.underlying35 ty33 (by rfl) (by rfl) (by rfl) (by omega)) ?_) | (refine RS.q rfl (QO.idxArrn Try.underlying35 ty33 (by rfl) (by rfl) (by rfl) (by omega)) ?_) | (refine RS.q rfl (QO.idxArr Try.underlying35 ty33 (by rfl) (by rfl) (by omega) (by omega)) ?_)
  first | (refine RS.q rfl (QO.load ty33 (by rfl) (by repeat (first | exact List.Mem.head _ | refine List.Mem.tail _ ?_)) (by rfl)) ?_) | (refine RS.q rfl (QO.loadO ty33 (by rfl) (by assumption)) ?_) | (refine RS.q rfl (QO.load ty33 (by rfl) (by repeat (first | exact List.Mem.head _ | refine List.Mem.tail _ ?_)) (by assumption)) ?_)
  refine RS.farith rfl (by rfl) (by rfl) (by simp) ?_
  intro r9 hr9
  first | (refine RS.q rfl (QO.idxArr0 Try.underlying96 ty33 (by rfl) (by rfl) (by rfl) (by omega)) ?_) | (refine RS.q rfl (QO.idxArrn Try.underlying96 ty33 (by rfl) (by rfl) (by rfl) (by omega)) ?_) | (refine RS.q rfl (QO.idxArr Try.underlying96 ty33 (by rfl) (by rfl) (by omega) (by omega)) ?_)
  first | (refine RS.q rfl (QO.load ty33 (by rfl) (by repeat (first | exact List.Mem.head _ | refine List.Mem.tail _ ?_)) (by rfl)) ?_) | (refine RS.q rfl (QO.loadO ty33 (by rfl) (by assumption)) ?_) | (refine RS.q rfl (QO.load ty33 (by rfl) (by repeat (first | exact List.Mem.head _ | refine List.Mem.tail _ ?_)) (by assumption)) ?_)
  first | (refine RS.q rfl (QO.idxArr0 Try.underlying35 ty33 (by rfl) (by rfl) (by rfl) (by omega)) ?_) | (refine RS.q rfl (QO.idxArrn Try.underlying35 ty33 (by rfl) (by rfl) (by rfl) (by omega)) ?_) | (refine RS.q rfl (QO.idxArr Try.underlying35 ty33 (by rfl) (by rfl) (by omega) (by omega)) ?_)
  first | (refine RS.q rfl (QO.load ty33 (by rfl) (by repeat (first | exact List.Mem.head _ | refine List.Mem.tail _ ?_)) (by rfl)) ?_) | (refine RS.q rfl (QO.loadO ty33 (by rfl) (by assumption)) ?_) | (refine RS.q rfl (QO.load ty33 (by rfl) (by repeat (first | exact List.Mem.head _ | refine List.Mem.tail _ ?_)) (by assumption)) ?_)
  refine RS.farith rfl (by rfl) (by rfl) (by simp) ?_
  intro r14 hr14
  refine RS.farith rfl (by rfl) (by rfl) (by simp) ?_
  intro r15 hr15
  first | (refine RS.q rfl (QO.idxArr0 Try.underlying96 ty33 (by rfl) (by rfl) (by rfl) (by omega)) ?_) | (refine RS.q rfl (QO.idxArrn Try.underlying96 ty33 (by rfl) (by rfl) (by rfl) (by omega)) ?_) | (refine RS.q rfl (QO.idxArr Try.underlying96 ty33 (by rfl) (by rfl) (by omega) (by omega)) ?_)
  first | (refine RS.q rfl (QO.load ty33 (by rfl) (by repeat (first | exact List.Mem.head _ | refine List.Mem.tail _ ?_)) (by rfl)) ?_) | (refine RS.q rfl (QO.loadO ty33 (by rfl) (by assumption)) ?_) | (refine RS.q rfl (QO.load ty33 (by rfl) (by repeat (first | exact List.Mem.head _ | refine List.Mem.tail _ ?_)) (by assumption)) ?_)
  first | (refine RS.q rfl (QO.idxArr0 Try.underlying35 ty33 (by rfl) (by rfl) (by rfl) (by omega)) ?_) | (refine RS.q rfl (QO.idxArrn Try.underlying35 ty33 (by rfl) (by rfl) (by rfl) (by omega)) ?_) | (refine RS.q rfl (QO.idxArr Try.underlying35 ty33 (by rfl) (by rfl) (by omega) (by omega)) ?_)
  first | (refine RS.q rfl (QO.load ty33 (by rfl) (by repeat (first | exact List.Mem.head _ | refine List.Mem.tail _ ?_)) (by rfl)) ?_) | (refine RS.q rfl (QO.loadO ty33 (by rfl) (by assumption)) ?_) | (refine RS.q rfl (QO.load ty33 (by rfl) (by repeat (first | exact List.Mem.head _ | refine List.Mem.tail _ ?_)) (by assumption)) ?_)
  refine RS.farith rfl (by rfl) (by rfl) (by simp) ?_
  intro r20 hr20
  refine RS.farith rfl (by rfl) (by rfl) (by simp) ?_
  intro r21 hr21
  refine RS.call rfl (by rfl) ok100 (by rfl) (fun w ho => fix _ _) ?_
  rintro _ _ ⟨rfl, rfl⟩
  refine RS.q rfl (QO.assign) ?_
  refine RS.nil ?_
  refine thenC_n ?_
  refine CS.ret ?_
  refine retQ.mk (H' := []) (.inr rfl) (RVs.tmp (by rfl) RVs.nil) (List.nil_sublist _) ?_
  exact ⟨congrArg flt (luma_of hr9 hr14 hr15 hr20 hr21), rfl⟩

set_option maxRecDepth 100000 in
theorem checkBands (A : Option Addr) (n c : Nat) (xs : List Nat) (W : World) (hn : xs.length = 5 * n) (hA : FS W A xs) (hm : n ≤ maxLen) : Fn_ Try.prog 75 #[.slice A n c] W (fun v H => v = iv (bandsE xs n) ∧ H = []) := by
  unfold maxLen at hm
  refine Fn_.intro Try.func75 rfl rfl (by rfl) ?_
  refine CS.seq ?_
  refine CS.region ?_
  refine RS.q rfl (QO.assign) ?_
  refine RS.nil ?_
  refine thenC_n ?_
  refine CS.seq ?_
  refine CS.seq ?_
  refine CS.region ?_
  refine RS.q rfl (QO.move) ?_
  refine RS.q rfl (QO.lenS Try.underlying97 (by rfl)) ?_
  refine RS.q rfl (QO.eql (by rfl) (by rfl)) ?_
  refine RS.nil ?_
  refine thenC_n ?_
  refine CS.cond (by rfl) (fun hb0 => ?_) (fun hb0 => ?_)
  · have hb0p := eq_of_beq hb0
    refine CS.seq ?_
    refine CS.region ?_
    refine RS.q rfl (QO.assign) ?_
    refine RS.nil ?_
    refine thenC_n ?_
    refine CS.ret ?_
    refine thenC_r ?_
    refine retQ.mk (H' := []) (.inr rfl) (RVs.tmp (by rfl) RVs.nil) (List.nil_sublist _) ?_
    exact ⟨congrArg iv (show (10 : Int) = bandsE xs n by unfold bandsE; rw [if_pos (by omega)]), rfl⟩
  · have hb0p := ne_of_beq_false hb0
    refine CS.skip ?_
    refine thenC_n ?_
    refine CS.seq ?_
    refine CS.seq ?_
    refine CS.region ?_
    refine RS.q rfl (QO.move) ?_
    refine RS.q rfl (QO.lenS Try.underlying97 (by rfl)) ?_
    refine RS.q rfl (QO.gtr (by rfl) (by rfl)) ?_
    refine RS.nil ?_
    refine thenC_n ?_
    refine CS.cond (by rfl) (fun hb1 => ?_) (fun hb1 => ?_)
    · have hb1p := of_decide_eq_true hb1
      refine CS.seq ?_
      refine CS.region ?_
      refine RS.q rfl (QO.assign) ?_
      refine RS.nil ?_
      refine thenC_n ?_
      refine CS.ret ?_
      refine thenC_r ?_
      refine retQ.mk (H' := []) (.inr rfl) (RVs.tmp (by rfl) RVs.nil) (List.nil_sublist _) ?_
      exact ⟨congrArg iv (show (4 : Int) = bandsE xs n by unfold bandsE; rw [if_neg (by omega), if_pos (by omega)]), rfl⟩
    · have hb1p := of_decide_eq_false hb1
      refine CS.skip ?_
      refine thenC_n ?_
      refine CS.seq ?_
      refine CS.seq ?_
      refine CS.region ?_
      refine RS.q rfl (QO.move) ?_
      refine RS.q rfl (QO.lenS Try.underlying97 (by rfl)) ?_
      refine RS.q rfl (QO.move) ?_
      refine RS.nil ?_
      refine thenC_n ?_
      refine CS.block ?_
      obtain ⟨bA, oA, rfl, hcell⟩ := hA (by omega)
      refine CS.loop (X := Nat) (2 :: 3 :: 4 :: 13 :: 14 :: 15 :: 16 :: 17 :: 18 :: 19 :: 20 :: 21 :: 22 :: 23 :: 24 :: 25 :: 26 :: 27 :: 28 :: 29 :: 30 :: 31 :: 32 :: 33 :: 34 :: 35 :: 36 :: []) (fun k => [(13, iv (k : Int))]) (fun k => []) (fun k => k ≤ n ∧ firstE (bandE xs) k = 0) (fun k => n - k) 0 ⟨Nat.zero_le _, rfl⟩ ?_ ?_ ?_
      · exact (by repeat (first | exact kn_nil | refine kn_cons (by rfl) ?_))
      · exact (by repeat (first | exact List.Sublist.refl _ | exact List.nil_sublist _ | refine List.Sublist.cons_cons _ ?_ | refine List.Sublist.cons _ ?_ | exact Sbp.refl | exact Sbp.nil | refine Sbp.cons (by repeat (first | exact Rem.head | apply Rem.tail)) ?_ | exact Sbp.app | refine Sbp.skip ?_))
      · intro k gj6 hz
        obtain ⟨hk, hz⟩ := hz
        refine CS.seq ?_
        refine CS.region ?_
        refine RS.q rfl (QO.lss (by rfl) (by rfl)) ?_
        refine RS.nil ?_
        refine thenC_n ?_
        refine CS.seq ?_
        refine CS.cond (by rfl) (fun hb2 => ?_) (fun hb2 => ?_)
        · have hb2p := of_decide_eq_true hb2
          refine CS.skip ?_
          refine thenC_n ?_
          refine CS.seq ?_
          refine CS.block ?_
          refine CS.seq ?_
          refine CS.region ?_
          refine RS.q rfl (QO.move) ?_
          refine RS.q rfl (QO.idx Try.underlying97 ty163 (by rfl) (by rfl) (by omega) (by omega)) ?_
          refine RS.q rfl (QO.loadOA ty163 (vs := [flt (xs.getD (5 * k) 0), flt (xs.getD (5 * k + 1) 0), flt (xs.getD (5 * k + 2) 0), flt (xs.getD (5 * k + 3) 0), flt (xs.getD (5 * k + 4) 0)]) (by rfl) (band_at hcell (by omega)) (by rfl)) ?_
          refine RS.alloc rfl ty163 ?_
          intro g4
          refine RS.q rfl (QO.assign) ?_
          first | refine RS.storeB ty163 (by rfl) (by rfl) (by rfl) (by rfl) (by rfl) (by repeat (first | exact Upd.head | apply Upd.tail)) (by rfl) ?_ | refine RS.storeP ty163 (by rfl) (by rfl) (by rfl) (by rfl) (by rfl) (by repeat (first | exact Upd.head | apply Upd.tail)) (by rfl) ?_
          refine RS.nil ?_
          refine thenC_n ?_
          refine CS.seq ?_
          refine CS.seq ?_
          refine CS.region ?_
          refine RS.q rfl (QO.fieldAddr fo163_0 (by rfl)) ?_
          first | (refine RS.q rfl (QO.load ty33 (by rfl) (by repeat (first | exact List.Mem.head _ | refine List.Mem.tail _ ?_)) (by rfl)) ?_) | (refine RS.q rfl (QO.loadO ty33 (by rfl) (by assumption)) ?_) | (refine RS.q rfl (QO.load ty33 (by rfl) (by repeat (first | exact List.Mem.head _ | refine List.Mem.tail _ ?_)) (by assumption)) ?_)
          refine RS.call rfl (by rfl) ok170 (by rfl) (fun w ho => isNumber _ _) ?_
          rintro _ _ ⟨rfl, rfl⟩
          refine RS.q rfl (QO.not (by rfl)) ?_
          refine RS.nil ?_
          refine thenC_n ?_
          refine CS.cond (by rfl) (fun hb3 => ?_) (fun hb3 => ?_)
          · have hb3p := Eq.mp (Bool.not_eq_true' _) hb3
            refine CS.seq ?_
            refine CS.region ?_
            refine RS.q rfl (QO.assign) ?_
            refine RS.nil ?_
            refine thenC_n ?_
            refine CS.ret ?_
            refine thenC_r ?_
            refine blockC_r ?_
            refine thenC_r ?_
            refine loopQ_r ?_
            refine blockC_r ?_
            refine thenC_r ?_
            refine retQ.mk (H' := []) (.inr rfl) (RVs.tmp (by rfl) RVs.nil) (List.nil_sublist _) ?_
            exact ⟨congrArg iv (show (2 : Int) = bandsE xs n by rw [bandsE_n (by omega) (by omega), firstE_at hz (by rw [bandE_2 hb3p]; decide) (by omega : k < n), bandE_2 hb3p]), rfl⟩
          · have hb3p := Eq.mp (Bool.not_eq_false' _) hb3
            refine CS.skip ?_
            refine thenC_n ?_
            refine CS.seq ?_
            refine CS.draw 14 rfl (by kernel_rfl) (by kernel_rfl) ?_
            refine RT.take (i := 0) rfl (by kernel_rfl) rfl (QO.move) ?_
            refine RT.take (i := 1) rfl (by kernel_rfl) rfl (QO.gtr (by rfl) (by rfl)) ?_
            refine RT.take (i := 2) rfl (by kernel_rfl) rfl (QO.move) ?_
            refine RT.split (dj := 24) (by rfl) (fun hb4 => ?_) (fun hb4 => ?_)
            · have hb4p := of_decide_eq_true hb4
              refine RT.takeOn (i := 3) (dj := 24) rfl rfl (congrArg Value.bool hb4) (by kernel_rfl) rfl (QO.fieldAddr fo163_0 (by rfl)) ?_
              first | (refine RT.takeOn (i := 4) (dj := 24) rfl rfl (congrArg Value.bool hb4) (by kernel_rfl) rfl (QO.load ty33 (by rfl) (by repeat (first | exact List.Mem.head _ | refine List.Mem.tail _ ?_)) (by rfl)) ?_) | (refine RT.takeOn (i := 4) (dj := 24) rfl rfl (congrArg Value.bool hb4) (by kernel_rfl) rfl (QO.loadO ty33 (by rfl) (by assumption)) ?_) | (refine RT.takeOn (i := 4) (dj := 24) rfl rfl (congrArg Value.bool hb4) (by kernel_rfl) rfl (QO.load ty33 (by rfl) (by repeat (first | exact List.Mem.head _ | refine List.Mem.tail _ ?_)) (by assumption)) ?_)
              refine RT.takeOn (i := 5) (dj := 24) rfl rfl (congrArg Value.bool hb4) (by kernel_rfl) rfl (QO.move) ?_
              refine RT.takeOn (i := 6) (dj := 24) rfl rfl (congrArg Value.bool hb4) (by kernel_rfl) rfl (QO.move) ?_
              first | (refine RT.takeOnv (i := 7) (dj := 24) rfl rfl (congrArg Value.bool hb4) (by kernel_rfl) rfl (QO.sub (by rfl) (by rfl) (by omega) (by omega)) (congrArg iv (show (k : Int) - 1 = ((k - 1 : Nat) : Int) by omega)) ?_) | (refine RT.takeOnv (i := 7) (dj := 24) rfl rfl (congrArg Value.bool hb4) (by kernel_rfl) rfl (QO.ibin (by rfl) (by rfl) trivial) (congrArg iv (show (k : Int) - 1 = ((k - 1 : Nat) : Int) by omega)) ?_)
              have hk0 : 0 < k := by omega
              refine RT.takeOn (i := 8) (dj := 24) rfl rfl (congrArg Value.bool hb4) (by kernel_rfl) rfl (QO.idx Try.underlying97 ty163 (by rfl) (by rfl) (by omega) (by omega)) ?_
              refine RT.takeOn (i := 9) (dj := 24) rfl rfl (congrArg Value.bool hb4) (by kernel_rfl) rfl (QO.fieldAddr fo163_0 (by rfl)) ?_
              refine RT.takeOn (i := 10) (dj := 24) rfl rfl (congrArg Value.bool hb4) (by kernel_rfl) rfl (QO.loadO ty33 (by rfl) (by have := band_at hcell (show 5 * (k - 1) + 5 ≤ xs.length by omega) 0 _ rfl; rw [addr_add] at this; exact this)) ?_
              refine RT.takeOn (i := 11) (dj := 24) rfl rfl (congrArg Value.bool hb4) (by kernel_rfl) rfl (QO.fcmp32 (by rfl) (by rfl) (by simp)) ?_
              refine RT.takeOn (i := 12) (dj := 24) rfl rfl (congrArg Value.bool hb4) (by kernel_rfl) rfl (QO.not (by rfl)) ?_
              refine RT.take (i := 13) rfl (by kernel_rfl) rfl (QO.pickT (by rfl) hb4 (by rfl)) ?_
              refine RT.done (by kernel_rfl) ?_
              refine thenC_n ?_
              refine CS.cond (by rfl) (fun hb5 => ?_) (fun hb5 => ?_)
              · have hb5p := Eq.mp (Bool.not_eq_true' _) hb5
                refine CS.seq ?_
                refine CS.region ?_
                refine RS.q rfl (QO.assign) ?_
                refine RS.nil ?_
                refine thenC_n ?_
                refine CS.ret ?_
                refine blockC_r ?_
                refine thenC_r ?_
                refine loopQ_r ?_
                refine blockC_r ?_
                refine thenC_r ?_
                refine retQ.mk (H' := []) (.inr rfl) (RVs.tmp (by rfl) RVs.nil) (List.nil_sublist _) ?_
                exact ⟨congrArg iv (show (8 : Int) = bandsE xs n by rw [bandsE_n (by omega) (by omega), firstE_at hz (by rw [bandE_8 hb3p hk0 hb5p]; decide) (by omega : k < n), bandE_8 hb3p hk0 hb5p]), rfl⟩
              · have hb5p := Eq.mp (Bool.not_eq_false' _) hb5
                refine CS.skip ?_
                refine blockC_n ?_
                refine thenC_n ?_
                refine CS.region ?_
                first | (refine RS.q rfl (QO.add (by rfl) (by rfl) (by omega) (by omega)) ?_) | (refine RS.q rfl (QO.ibin (by rfl) (by rfl) trivial) ?_)
                refine RS.q rfl (QO.move) ?_
                refine RS.nil ?_
                refine loopQ_n (by intro t ht; repeat (first | with_reducible exact rfl | exact frame_puts ht (frame_mix ht) _ rfl | (refine frame_put rfl ht ?_) | (refine frame_puts ht ?_ _ rfl) | exact frame_mix ht | (refine frame_mix2 rfl ht ?_) | exact rfl)) ?_
                exact ⟨k + 1, ⟨by omega, firstE_go hz (bandE_0 hb3p (fun _ => hb5p))⟩, by omega, (by repeat (first | exact kn_nil | refine kn_cons (by rfl) ?_)), (by repeat (first | exact List.Sublist.refl _ | exact List.nil_sublist _ | refine List.Sublist.cons_cons _ ?_ | refine List.Sublist.cons _ ?_ | exact Sbp.refl | exact Sbp.nil | refine Sbp.cons (by repeat (first | exact Rem.head | apply Rem.tail)) ?_ | exact Sbp.app | refine Sbp.skip ?_))⟩
            · have hb4p := of_decide_eq_false hb4
              refine RT.takeOff (i := 3) (dj := 24) rfl rfl (.inl (congrArg Value.bool hb4)) (fun _ => rfl) (by kernel_rfl) rfl ?_
              refine RT.takeOff (i := 4) (dj := 24) rfl rfl (.inl (congrArg Value.bool hb4)) (fun _ => rfl) (by kernel_rfl) rfl ?_
              refine RT.takeOff (i := 5) (dj := 24) rfl rfl (.inl (congrArg Value.bool hb4)) (fun _ => rfl) (by kernel_rfl) rfl ?_
              refine RT.takeOff (i := 6) (dj := 24) rfl rfl (.inl (congrArg Value.bool hb4)) (fun _ => rfl) (by kernel_rfl) rfl ?_
              refine RT.takeOff (i := 7) (dj := 24) rfl rfl (.inl (congrArg Value.bool hb4)) (fun _ => rfl) (by kernel_rfl) rfl ?_
              refine RT.takeOff (i := 8) (dj := 24) rfl rfl (.inl (congrArg Value.bool hb4)) (fun _ => rfl) (by kernel_rfl) rfl ?_
              refine RT.takeOff (i := 9) (dj := 24) rfl rfl (.inl (congrArg Value.bool hb4)) (fun _ => rfl) (by kernel_rfl) rfl ?_
              refine RT.takeOff (i := 10) (dj := 24) rfl rfl (.inl (congrArg Value.bool hb4)) (fun _ => rfl) (by kernel_rfl) rfl ?_
              refine RT.takeOff (i := 11) (dj := 24) rfl rfl (.inl (congrArg Value.bool hb4)) (fun _ => rfl) (by kernel_rfl) rfl ?_
              refine RT.takeOff (i := 12) (dj := 24) rfl rfl (.inl (congrArg Value.bool hb4)) (fun _ => rfl) (by kernel_rfl) rfl ?_
              refine RT.take (i := 13) rfl (by kernel_rfl) rfl (QO.pickF (by rfl) hb4 (by rfl)) ?_
              refine RT.done (by kernel_rfl) ?_
              refine thenC_n ?_
              refine CS.condF (by rfl) rfl ?_
              refine CS.skip ?_
              refine blockC_n ?_
              refine thenC_n ?_
              refine CS.region ?_
              first | (refine RS.q rfl (QO.add (by rfl) (by rfl) (by omega) (by omega)) ?_) | (refine RS.q rfl (QO.ibin (by rfl) (by rfl) trivial) ?_)
              refine RS.q rfl (QO.move) ?_
              refine RS.nil ?_
              refine loopQ_n (by intro t ht; repeat (first | with_reducible exact rfl | exact frame_puts ht (frame_mix ht) _ rfl | (refine frame_put rfl ht ?_) | (refine frame_puts ht ?_ _ rfl) | exact frame_mix ht | (refine frame_mix2 rfl ht ?_) | exact rfl)) ?_
              exact ⟨k + 1, ⟨by omega, firstE_go hz (bandE_0 hb3p (fun h => absurd h (by omega)))⟩, by omega, (by repeat (first | exact kn_nil | refine kn_cons (by rfl) ?_)), (by repeat (first | exact List.Sublist.refl _ | exact List.nil_sublist _ | refine List.Sublist.cons_cons _ ?_ | refine List.Sublist.cons _ ?_ | exact Sbp.refl | exact Sbp.nil | refine Sbp.cons (by repeat (first | exact Rem.head | apply Rem.tail)) ?_ | exact Sbp.app | refine Sbp.skip ?_))⟩
        · have hb2p := of_decide_eq_false hb2
          refine CS.exit ?_
          refine thenC_x ?_
          refine loopQ_x ?_
          refine blockC_x ?_
          refine thenC_n ?_
          refine CS.seq ?_
          refine CS.region ?_
          refine RS.q rfl (QO.assign) ?_
          refine RS.nil ?_
          refine thenC_n ?_
          refine CS.ret ?_
          refine retQ.mk (H' := []) (.inr rfl) (RVs.tmp (by rfl) RVs.nil) (List.nil_sublist _) ?_
          obtain rfl : k = n := by omega
          exact ⟨congrArg iv (show (0 : Int) = bandsE xs k by rw [bandsE_n (by omega) (by omega), hz]), rfl⟩

set_option maxRecDepth 100000 in
theorem bandsError (A : Option Addr) (n c : Nat) (xs : List Nat) (W : World) (hn : xs.length = 5 * n) (hA : FS W A xs) (hm : n ≤ maxLen) : Fn_ Try.prog 76 #[.slice A n c] W (fun v H => v = iv (bandsE xs n) ∧ H = []) := by
  unfold maxLen at hm
  refine Fn_.intro Try.func76 rfl rfl (by rfl) ?_
  refine CS.seq ?_
  refine CS.region ?_
  refine RS.q rfl (QO.assign) ?_
  refine RS.nil ?_
  refine thenC_n ?_
  refine CS.seq ?_
  refine CS.seq ?_
  refine CS.region ?_
  refine RS.q rfl (QO.move) ?_
  refine RS.q rfl (QO.lenS Try.underlying97 (by rfl)) ?_
  refine RS.q rfl (QO.eql (by rfl) (by rfl)) ?_
  refine RS.nil ?_
  refine thenC_n ?_
  refine CS.cond (by rfl) (fun hb0 => ?_) (fun hb0 => ?_)
  · have hb0p := eq_of_beq hb0
    refine CS.seq ?_
    refine CS.region ?_
    refine RS.q rfl (QO.assign) ?_
    refine RS.nil ?_
    refine thenC_n ?_
    refine CS.ret ?_
    refine thenC_r ?_
    refine retQ.mk (H' := []) (.inr rfl) (RVs.tmp (by rfl) RVs.nil) (List.nil_sublist _) ?_
    exact ⟨congrArg iv (show (10 : Int) = bandsE xs n by unfold bandsE; rw [if_pos (by omega)]), rfl⟩
  · have hb0p := ne_of_beq_false hb0
    refine CS.skip ?_
    refine thenC_n ?_
    refine CS.seq ?_
    refine CS.seq ?_
    refine CS.region ?_
    refine RS.q rfl (QO.move) ?_
    refine RS.q rfl (QO.lenS Try.underlying97 (by rfl)) ?_
    refine RS.q rfl (QO.gtr (by rfl) (by rfl)) ?_
    refine RS.nil ?_
    refine thenC_n ?_
    refine CS.cond (by rfl) (fun hb1 => ?_) (fun hb1 => ?_)
    · have hb1p := of_decide_eq_true hb1
      refine CS.seq ?_
      refine CS.region ?_
      refine RS.q rfl (QO.assign) ?_
      refine RS.nil ?_
      refine thenC_n ?_
      refine CS.ret ?_
      refine thenC_r ?_
      refine retQ.mk (H' := []) (.inr rfl) (RVs.tmp (by rfl) RVs.nil) (List.nil_sublist _) ?_
      exact ⟨congrArg iv (show (4 : Int) = bandsE xs n by unfold bandsE; rw [if_neg (by omega), if_pos (by omega)]), rfl⟩
    · have hb1p := of_decide_eq_false hb1
      refine CS.skip ?_
      refine thenC_n ?_
      refine CS.seq ?_
      refine CS.seq ?_
      refine CS.region ?_
      refine RS.q rfl (QO.move) ?_
      refine RS.q rfl (QO.lenS Try.underlying97 (by rfl)) ?_
      refine RS.q rfl (QO.move) ?_
      refine RS.nil ?_
      refine thenC_n ?_
      refine CS.block ?_
      obtain ⟨bA, oA, rfl, hcell⟩ := hA (by omega)
      refine CS.loop (X := Nat) (2 :: 3 :: 4 :: 13 :: 14 :: 15 :: 16 :: 17 :: 18 :: 19 :: 20 :: 21 :: 22 :: 23 :: 24 :: 25 :: 26 :: 27 :: 28 :: 29 :: 30 :: 31 :: 32 :: 33 :: 34 :: 35 :: 36 :: []) (fun k => [(13, iv (k : Int))]) (fun k => []) (fun k => k ≤ n ∧ firstE (bandE xs) k = 0) (fun k => n - k) 0 ⟨Nat.zero_le _, rfl⟩ ?_ ?_ ?_
      · exact (by repeat (first | exact kn_nil | refine kn_cons (by rfl) ?_))
      · exact (by repeat (first | exact List.Sublist.refl _ | exact List.nil_sublist _ | refine List.Sublist.cons_cons _ ?_ | refine List.Sublist.cons _ ?_ | exact Sbp.refl | exact Sbp.nil | refine Sbp.cons (by repeat (first | exact Rem.head | apply Rem.tail)) ?_ | exact Sbp.app | refine Sbp.skip ?_))
      · intro k gj6 hz
        obtain ⟨hk, hz⟩ := hz
        refine CS.seq ?_
        refine CS.region ?_
        refine RS.q rfl (QO.lss (by rfl) (by rfl)) ?_
        refine RS.nil ?_
        refine thenC_n ?_
        refine CS.seq ?_
        refine CS.cond (by rfl) (fun hb2 => ?_) (fun hb2 => ?_)
        · have hb2p := of_decide_eq_true hb2
          refine CS.skip ?_
          refine thenC_n ?_
          refine CS.seq ?_
          refine CS.block ?_
          refine CS.seq ?_
          refine CS.region ?_
          refine RS.q rfl (QO.move) ?_
          refine RS.q rfl (QO.idx Try.underlying97 ty163 (by rfl) (by rfl) (by omega) (by omega)) ?_
          refine RS.q rfl (QO.loadOA ty163 (vs := [flt (xs.getD (5 * k) 0), flt (xs.getD (5 * k + 1) 0), flt (xs.getD (5 * k + 2) 0), flt (xs.getD (5 * k + 3) 0), flt (xs.getD (5 * k + 4) 0)]) (by rfl) (band_at hcell (by omega)) (by rfl)) ?_
          refine RS.alloc rfl ty163 ?_
          intro g4
          refine RS.q rfl (QO.assign) ?_
          first | refine RS.storeB ty163 (by rfl) (by rfl) (by rfl) (by rfl) (by rfl) (by repeat (first | exact Upd.head | apply Upd.tail)) (by rfl) ?_ | refine RS.storeP ty163 (by rfl) (by rfl) (by rfl) (by rfl) (by rfl) (by repeat (first | exact Upd.head | apply Upd.tail)) (by rfl) ?_
          refine RS.nil ?_
          refine thenC_n ?_
          refine CS.seq ?_
          refine CS.seq ?_
          refine CS.region ?_
          refine RS.q rfl (QO.fieldAddr fo163_0 (by rfl)) ?_
          first | (refine RS.q rfl (QO.load ty33 (by rfl) (by repeat (first | exact List.Mem.head _ | refine List.Mem.tail _ ?_)) (by rfl)) ?_) | (refine RS.q rfl (QO.loadO ty33 (by rfl) (by assumption)) ?_) | (refine RS.q rfl (QO.load ty33 (by rfl) (by repeat (first | exact List.Mem.head _ | refine List.Mem.tail _ ?_)) (by assumption)) ?_)
          refine RS.call rfl (by rfl) ok171 (by rfl) (fun w ho => risNumber _ _) ?_
          rintro _ _ ⟨rfl, rfl⟩
          refine RS.q rfl (QO.not (by rfl)) ?_
          refine RS.nil ?_
          refine thenC_n ?_
          refine CS.cond (by rfl) (fun hb3 => ?_) (fun hb3 => ?_)
          · have hb3p := Eq.mp (Bool.not_eq_true' _) hb3
            refine CS.seq ?_
            refine CS.region ?_
            refine RS.q rfl (QO.assign) ?_
            refine RS.nil ?_
            refine thenC_n ?_
            refine CS.ret ?_
            refine thenC_r ?_
            refine blockC_r ?_
            refine thenC_r ?_
            refine loopQ_r ?_
            refine blockC_r ?_
            refine thenC_r ?_
            refine retQ.mk (H' := []) (.inr rfl) (RVs.tmp (by rfl) RVs.nil) (List.nil_sublist _) ?_
            exact ⟨congrArg iv (show (2 : Int) = bandsE xs n by rw [bandsE_n (by omega) (by omega), firstE_at hz (by rw [bandE_2 hb3p]; decide) (by omega : k < n), bandE_2 hb3p]), rfl⟩
          · have hb3p := Eq.mp (Bool.not_eq_false' _) hb3
            refine CS.skip ?_
            refine thenC_n ?_
            refine CS.seq ?_
            refine CS.draw 14 rfl (by kernel_rfl) (by kernel_rfl) ?_
            refine RT.take (i := 0) rfl (by kernel_rfl) rfl (QO.move) ?_
            refine RT.take (i := 1) rfl (by kernel_rfl) rfl (QO.gtr (by rfl) (by rfl)) ?_
            refine RT.take (i := 2) rfl (by kernel_rfl) rfl (QO.move) ?_
            refine RT.split (dj := 24) (by rfl) (fun hb4 => ?_) (fun hb4 => ?_)
            · have hb4p := of_decide_eq_true hb4
              refine RT.takeOn (i := 3) (dj := 24) rfl rfl (congrArg Value.bool hb4) (by kernel_rfl) rfl (QO.fieldAddr fo163_0 (by rfl)) ?_
              first | (refine RT.takeOn (i := 4) (dj := 24) rfl rfl (congrArg Value.bool hb4) (by kernel_rfl) rfl (QO.load ty33 (by rfl) (by repeat (first | exact List.Mem.head _ | refine List.Mem.tail _ ?_)) (by rfl)) ?_) | (refine RT.takeOn (i := 4) (dj := 24) rfl rfl (congrArg Value.bool hb4) (by kernel_rfl) rfl (QO.loadO ty33 (by rfl) (by assumption)) ?_) | (refine RT.takeOn (i := 4) (dj := 24) rfl rfl (congrArg Value.bool hb4) (by kernel_rfl) rfl (QO.load ty33 (by rfl) (by repeat (first | exact List.Mem.head _ | refine List.Mem.tail _ ?_)) (by assumption)) ?_)
              refine RT.takeOn (i := 5) (dj := 24) rfl rfl (congrArg Value.bool hb4) (by kernel_rfl) rfl (QO.move) ?_
              refine RT.takeOn (i := 6) (dj := 24) rfl rfl (congrArg Value.bool hb4) (by kernel_rfl) rfl (QO.move) ?_
              first | (refine RT.takeOnv (i := 7) (dj := 24) rfl rfl (congrArg Value.bool hb4) (by kernel_rfl) rfl (QO.sub (by rfl) (by rfl) (by omega) (by omega)) (congrArg iv (show (k : Int) - 1 = ((k - 1 : Nat) : Int) by omega)) ?_) | (refine RT.takeOnv (i := 7) (dj := 24) rfl rfl (congrArg Value.bool hb4) (by kernel_rfl) rfl (QO.ibin (by rfl) (by rfl) trivial) (congrArg iv (show (k : Int) - 1 = ((k - 1 : Nat) : Int) by omega)) ?_)
              have hk0 : 0 < k := by omega
              refine RT.takeOn (i := 8) (dj := 24) rfl rfl (congrArg Value.bool hb4) (by kernel_rfl) rfl (QO.idx Try.underlying97 ty163 (by rfl) (by rfl) (by omega) (by omega)) ?_
              refine RT.takeOn (i := 9) (dj := 24) rfl rfl (congrArg Value.bool hb4) (by kernel_rfl) rfl (QO.fieldAddr fo163_0 (by rfl)) ?_
              refine RT.takeOn (i := 10) (dj := 24) rfl rfl (congrArg Value.bool hb4) (by kernel_rfl) rfl (QO.loadO ty33 (by rfl) (by have := band_at hcell (show 5 * (k - 1) + 5 ≤ xs.length by omega) 0 _ rfl; rw [addr_add] at this; exact this)) ?_
              refine RT.takeOn (i := 11) (dj := 24) rfl rfl (congrArg Value.bool hb4) (by kernel_rfl) rfl (QO.fcmp32 (by rfl) (by rfl) (by simp)) ?_
              refine RT.takeOn (i := 12) (dj := 24) rfl rfl (congrArg Value.bool hb4) (by kernel_rfl) rfl (QO.not (by rfl)) ?_
              refine RT.take (i := 13) rfl (by kernel_rfl) rfl (QO.pickT (by rfl) hb4 (by rfl)) ?_
              refine RT.done (by kernel_rfl) ?_
              refine thenC_n ?_
              refine CS.cond (by rfl) (fun hb5 => ?_) (fun hb5 => ?_)
              · have hb5p := Eq.mp (Bool.not_eq_true' _) hb5
                refine CS.seq ?_
                refine CS.region ?_
                refine RS.q rfl (QO.assign) ?_
                refine RS.nil ?_
                refine thenC_n ?_
                refine CS.ret ?_
                refine blockC_r ?_
                refine thenC_r ?_
                refine loopQ_r ?_
                refine blockC_r ?_
                refine thenC_r ?_
                refine retQ.mk (H' := []) (.inr rfl) (RVs.tmp (by rfl) RVs.nil) (List.nil_sublist _) ?_
                exact ⟨congrArg iv (show (8 : Int) = bandsE xs n by rw [bandsE_n (by omega) (by omega), firstE_at hz (by rw [bandE_8 hb3p hk0 hb5p]; decide) (by omega : k < n), bandE_8 hb3p hk0 hb5p]), rfl⟩
              · have hb5p := Eq.mp (Bool.not_eq_false' _) hb5
                refine CS.skip ?_
                refine blockC_n ?_
                refine thenC_n ?_
                refine CS.region ?_
                first | (refine RS.q rfl (QO.add (by rfl) (by rfl) (by omega) (by omega)) ?_) | (refine RS.q rfl (QO.ibin (by rfl) (by rfl) trivial) ?_)
                refine RS.q rfl (QO.move) ?_
                refine RS.nil ?_
                refine loopQ_n (by intro t ht; repeat (first | with_reducible exact rfl | exact frame_puts ht (frame_mix ht) _ rfl | (refine frame_put rfl ht ?_) | (refine frame_puts ht ?_ _ rfl) | exact frame_mix ht | (refine frame_mix2 rfl ht ?_) | exact rfl)) ?_
                exact ⟨k + 1, ⟨by omega, firstE_go hz (bandE_0 hb3p (fun _ => hb5p))⟩, by omega, (by repeat (first | exact kn_nil | refine kn_cons (by rfl) ?_)), (by repeat (first | exact List.Sublist.refl _ | exact List.nil_sublist _ | refine List.Sublist.cons_cons _ ?_ | refine List.Sublist.cons _ ?_ | exact Sbp.refl | exact Sbp.nil | refine Sbp.cons (by repeat (first | exact Rem.head | apply Rem.tail)) ?_ | exact Sbp.app | refine Sbp.skip ?_))⟩
            · have hb4p := of_decide_eq_false hb4
              refine RT.takeOff (i := 3) (dj := 24) rfl rfl (.inl (congrArg Value.bool hb4)) (fun _ => rfl) (by kernel_rfl) rfl ?_
              refine RT.takeOff (i := 4) (dj := 24) rfl rfl (.inl (congrArg Value.bool hb4)) (fun _ => rfl) (by kernel_rfl) rfl ?_
              refine RT.takeOff (i := 5) (dj := 24) rfl rfl (.inl (congrArg Value.bool hb4)) (fun _ => rfl) (by kernel_rfl) rfl ?_
              refine RT.takeOff (i := 6) (dj := 24) rfl rfl (.inl (congrArg Value.bool hb4)) (fun _ => rfl) (by kernel_rfl) rfl ?_
              refine RT.takeOff (i := 7) (dj := 24) rfl rfl (.inl (congrArg Value.bool hb4)) (fun _ => rfl) (by kernel_rfl) rfl ?_
              refine RT.takeOff (i := 8) (dj := 24) rfl rfl (.inl (congrArg Value.bool hb4)) (fun _ => rfl) (by kernel_rfl) rfl ?_
              refine RT.takeOff (i := 9) (dj := 24) rfl rfl (.inl (congrArg Value.bool hb4)) (fun _ => rfl) (by kernel_rfl) rfl ?_
              refine RT.takeOff (i := 10) (dj := 24) rfl rfl (.inl (congrArg Value.bool hb4)) (fun _ => rfl) (by kernel_rfl) rfl ?_
              refine RT.takeOff (i := 11) (dj := 24) rfl rfl (.inl (congrArg Value.bool hb4)) (fun _ => rfl) (by kernel_rfl) rfl ?_
              refine RT.takeOff (i := 12) (dj := 24) rfl rfl (.inl (congrArg Value.bool hb4)) (fun _ => rfl) (by kernel_rfl) rfl ?_
              refine RT.take (i := 13) rfl (by kernel_rfl) rfl (QO.pickF (by rfl) hb4 (by rfl)) ?_
              refine RT.done (by kernel_rfl) ?_
              refine thenC_n ?_
              refine CS.condF (by rfl) rfl ?_
              refine CS.skip ?_
              refine blockC_n ?_
              refine thenC_n ?_
              refine CS.region ?_
              first | (refine RS.q rfl (QO.add (by rfl) (by rfl) (by omega) (by omega)) ?_) | (refine RS.q rfl (QO.ibin (by rfl) (by rfl) trivial) ?_)
              refine RS.q rfl (QO.move) ?_
              refine RS.nil ?_
              refine loopQ_n (by intro t ht; repeat (first | with_reducible exact rfl | exact frame_puts ht (frame_mix ht) _ rfl | (refine frame_put rfl ht ?_) | (refine frame_puts ht ?_ _ rfl) | exact frame_mix ht | (refine frame_mix2 rfl ht ?_) | exact rfl)) ?_
              exact ⟨k + 1, ⟨by omega, firstE_go hz (bandE_0 hb3p (fun h => absurd h (by omega)))⟩, by omega, (by repeat (first | exact kn_nil | refine kn_cons (by rfl) ?_)), (by repeat (first | exact List.Sublist.refl _ | exact List.nil_sublist _ | refine List.Sublist.cons_cons _ ?_ | refine List.Sublist.cons _ ?_ | exact Sbp.refl | exact Sbp.nil | refine Sbp.cons (by repeat (first | exact Rem.head | apply Rem.tail)) ?_ | exact Sbp.app | refine Sbp.skip ?_))⟩
        · have hb2p := of_decide_eq_false hb2
          refine CS.exit ?_
          refine thenC_x ?_
          refine loopQ_x ?_
          refine blockC_x ?_
          refine thenC_n ?_
          refine CS.seq ?_
          refine CS.region ?_
          refine RS.q rfl (QO.assign) ?_
          refine RS.nil ?_
          refine thenC_n ?_
          refine CS.ret ?_
          refine retQ.mk (H' := []) (.inr rfl) (RVs.tmp (by rfl) RVs.nil) (List.nil_sublist _) ?_
          obtain rfl : k = n := by omega
          exact ⟨congrArg iv (show (0 : Int) = bandsE xs k by rw [bandsE_n (by omega) (by omega), hz]), rfl⟩

theorem four_at {W : World} {b o : Nat} {xs : List Nat} {k : Nat} (hcell : ∀ (i x : Nat), xs[i]? = some x → W.cell? ⟨b, o + i, none⟩ = some (flt x)) (hk : 4 * k + 4 ≤ xs.length) :
    ∀ (j : Nat) (v : Value), [flt (xs.getD (4 * k + 0) 0), flt (xs.getD (4 * k + 1) 0), flt (xs.getD (4 * k + 2) 0), flt (xs.getD (4 * k + 3) 0)][j]? = some v → W.cell? ((⟨b, o + 4 * k, none⟩ : Addr).add j) = some v := by
  intro j v hj
  have hj4 : j < 4 := (List.getElem?_eq_some_iff.1 hj).1
  rw [idx4 (fun q => flt (xs.getD (4 * k + q) 0)) j hj4] at hj
  have hj' : flt (xs.getD (4 * k + j) 0) = v := by simpa using hj
  rw [← hj', addr_add, Nat.add_assoc]
  exact hcell _ _ (by rw [List.getElem?_eq_getElem (by omega), getD_at])

set_option maxRecDepth 100000 in
theorem repainted (X Y : Int) (a b : Nat) (A : Option Addr) (n c : Nat) (xs : List Nat) (u : Nat → Nat) (fc : FuncId) (cap : Array Value) (T : Int → Int → (Nat → Nat) → Nat → Nat) (W : World) (hn : xs.length = n) (hA : FS W A xs) (hN : n = 4 * (a * b)) (hc : n ≤ c) (hX : -1000 ≤ X ∧ X ≤ 1000) (hY : -1000 ≤ Y ∧ Y ≤ 1000) (ha : 1 ≤ a ∧ a ≤ 8) (hb : 1 ≤ b ∧ b ≤ 8) (hok : callOK Try.prog fc = true) (hf : ∀ wd Hd, Own W wd Hd → ∀ (i j : Nat) (q : Nat → Nat), i < a → j < b → Fn_ Try.prog fc (iv (X + (i : Int)) :: iv (Y + (j : Int)) :: flt (lumaV u q) :: pxv q :: cap.toList).toArray wd (fun v H => v = pxv (T (X + (i : Int)) (Y + (j : Int)) q) ∧ H = [])) : Fn_ Try.prog 172 #[.agg #[iv X, iv Y, iv (a : Int), iv (b : Int), .slice A n c], .agg #[flt (u 0), flt (u 1), flt (u 2)], .func (.func fc) #[] cap] W (fun v H => ∃ g, v = .agg #[iv X, iv Y, iv (a : Int), iv (b : Int), .slice (some ⟨g, 0, none⟩) n n] ∧ H = [⟨g, 33, (madeV (fun x y => T x y (pixF xs X Y a b x y)) X Y a n).map flt⟩]) := by
  subst hn
  have hab1 := Nat.mul_le_mul ha.1 hb.1
  have hab2 := Nat.mul_le_mul ha.2 hb.2
  obtain ⟨bA, oA, rfl, hcell⟩ := hA (by omega)
  refine Fn_.intro Try.func172 rfl rfl (by rfl) ?_
  refine CS.seq ?_
  refine CS.region ?_
  refine RS.box rfl (by rfl) (by rfl) ?_
  intro g3
  refine RS.box rfl (by rfl) (by rfl) ?_
  intro g4
  refine RS.alloc rfl ty26 ?_
  intro g6
  refine RS.nil ?_
  refine thenC_n ?_
  refine CS.cut (X := Nat × Nat) [7, 12, 13, 14, 15, 16, 17, 18] (fun z => [(7, .pointer (some ⟨z.1, 0, none⟩))]) (fun z => [⟨z.1, 26, [iv X, iv Y, iv (a : Int), iv (b : Int), .slice (some ⟨z.2, 0, none⟩) xs.length xs.length]⟩, ⟨z.2, 33, partL (madeF (fun x y => T x y (pixF xs X Y a b x y)) X Y a) xs.length 0⟩, ⟨g6, 26, [iv 0, iv 0, iv 0, iv 0, .slice none 0 0]⟩, ⟨g4, 96, [flt (u 0), flt (u 1), flt (u 2)]⟩, ⟨g3, 26, [iv X, iv Y, iv (a : Int), iv (b : Int), .slice (some ⟨bA, oA, none⟩) xs.length c]⟩]) (fun z => True) ?_ ?_
  · refine CS.draw 8 rfl (by kernel_rfl) (by kernel_rfl) ?_
    refine RT.take (i := 0) rfl (by kernel_rfl) rfl (QO.fieldAddr fo26_0 (by rfl)) ?_
    first | (refine RT.take (i := 1) rfl (by kernel_rfl) rfl (QO.loadB ty23 (by rfl) (by repeat (first | exact List.Mem.head _ | refine List.Mem.tail _ ?_)) (by rfl)) ?_) | (refine RT.take (i := 1) rfl (by kernel_rfl) rfl (QO.loadA ty23 (by rfl) (by repeat (first | exact List.Mem.head _ | refine List.Mem.tail _ ?_)) (by rfl) (by rfl)) ?_) | (refine RT.take (i := 1) rfl (by kernel_rfl) rfl (QO.loadOA ty23 (by rfl) (by assumption) (by rfl)) ?_)
    refine RT.take (i := 2) rfl (by kernel_rfl) rfl (QO.fieldAddr fo26_1 (by rfl)) ?_
    first | (refine RT.take (i := 3) rfl (by kernel_rfl) rfl (QO.load ty24 (by rfl) (by repeat (first | exact List.Mem.head _ | refine List.Mem.tail _ ?_)) (by rfl)) ?_) | (refine RT.take (i := 3) rfl (by kernel_rfl) rfl (QO.loadO ty24 (by rfl) (by assumption)) ?_) | (refine RT.take (i := 3) rfl (by kernel_rfl) rfl (QO.load ty24 (by rfl) (by repeat (first | exact List.Mem.head _ | refine List.Mem.tail _ ?_)) (by assumption)) ?_)
    refine RT.take (i := 4) rfl (by kernel_rfl) rfl (QO.lenS Try.underlying24 (by rfl)) ?_
    refine RT.two (i := 5) (j := 7) (by kernel_rfl) rfl rfl ?_ ?_
    · refine RS.make rfl Try.underlying24 ty33 (by rfl) (by rfl) (by omega) (by omega) (by omega) (by omega) ?_
      intro g17
      refine RS.nil ⟨(by repeat (first | exact List.Sublist.refl _ | exact List.nil_sublist _ | refine List.Sublist.cons_cons _ ?_ | refine List.Sublist.cons _ ?_ | exact Sbp.refl | exact Sbp.nil | refine Sbp.cons (by repeat (first | exact Rem.head | apply Rem.tail)) ?_ | exact Sbp.app | refine Sbp.skip ?_)), ?_⟩
      refine RT.take (i := 6) rfl (by kernel_rfl) rfl (QO.build ty26 pl26 (by rfl)) ?_
      refine RT.one (i := 7) (by kernel_rfl) rfl rfl ?_
      refine RS.alloc rfl ty26 ?_
      intro g7
      refine RS.nil ⟨(by repeat (first | exact List.Sublist.refl _ | exact List.nil_sublist _ | refine List.Sublist.cons_cons _ ?_ | refine List.Sublist.cons _ ?_ | exact Sbp.refl | exact Sbp.nil | refine Sbp.cons (by repeat (first | exact Rem.head | apply Rem.tail)) ?_ | exact Sbp.app | refine Sbp.skip ?_)), ?_⟩
      refine RT.tail (i := 8) (by kernel_rfl) rfl rfl ?_
      first | refine RS.storeB ty26 (by rfl) (by rfl) (by rfl) (by rfl) (by rfl) (by repeat (first | exact Upd.head | apply Upd.tail)) (by rfl) ?_ | refine RS.storeP ty26 (by rfl) (by rfl) (by rfl) (by rfl) (by rfl) (by repeat (first | exact Upd.head | apply Upd.tail)) (by rfl) ?_
      refine RS.nil ?_
      refine RT.done (by kernel_rfl) ?_
      refine cutQ_n (by intro t ht; repeat (first | with_reducible exact rfl | exact frame_puts ht (frame_mix ht) _ rfl | (refine frame_put rfl ht ?_) | (refine frame_puts ht ?_ _ rfl) | exact frame_mix ht | (refine frame_mix2 rfl ht ?_) | exact rfl)) ?_
      exact ⟨(g7, g17), trivial, (by repeat (first | exact kn_nil | refine kn_cons (by rfl) ?_)), (by rw [partL_zero]; exact (by repeat (first | exact List.Sublist.refl _ | exact List.nil_sublist _ | refine List.Sublist.cons_cons _ ?_ | refine List.Sublist.cons _ ?_ | exact Sbp.refl | exact Sbp.nil | refine Sbp.cons (by repeat (first | exact Rem.head | apply Rem.tail)) ?_ | exact Sbp.app | refine Sbp.skip ?_)))⟩
    · refine RS.alloc rfl ty26 ?_
      intro g7
      refine RS.nil ⟨(by repeat (first | exact List.Sublist.refl _ | exact List.nil_sublist _ | refine List.Sublist.cons_cons _ ?_ | refine List.Sublist.cons _ ?_ | exact Sbp.refl | exact Sbp.nil | refine Sbp.cons (by repeat (first | exact Rem.head | apply Rem.tail)) ?_ | exact Sbp.app | refine Sbp.skip ?_)), ?_⟩
      refine RT.one (i := 5) (by kernel_rfl) rfl rfl ?_
      refine RS.make rfl Try.underlying24 ty33 (by rfl) (by rfl) (by omega) (by omega) (by omega) (by omega) ?_
      intro g17
      refine RS.nil ⟨(by repeat (first | exact List.Sublist.refl _ | exact List.nil_sublist _ | refine List.Sublist.cons_cons _ ?_ | refine List.Sublist.cons _ ?_ | exact Sbp.refl | exact Sbp.nil | refine Sbp.cons (by repeat (first | exact Rem.head | apply Rem.tail)) ?_ | exact Sbp.app | refine Sbp.skip ?_)), ?_⟩
      refine RT.take (i := 6) rfl (by kernel_rfl) rfl (QO.build ty26 pl26 (by rfl)) ?_
      refine RT.tail (i := 8) (by kernel_rfl) rfl rfl ?_
      first | refine RS.storeB ty26 (by rfl) (by rfl) (by rfl) (by rfl) (by rfl) (by repeat (first | exact Upd.head | apply Upd.tail)) (by rfl) ?_ | refine RS.storeP ty26 (by rfl) (by rfl) (by rfl) (by rfl) (by rfl) (by repeat (first | exact Upd.head | apply Upd.tail)) (by rfl) ?_
      refine RS.nil ?_
      refine RT.done (by kernel_rfl) ?_
      refine cutQ_n (by intro t ht; repeat (first | with_reducible exact rfl | exact frame_puts ht (frame_mix ht) _ rfl | (refine frame_put rfl ht ?_) | (refine frame_puts ht ?_ _ rfl) | exact frame_mix ht | (refine frame_mix2 rfl ht ?_) | exact rfl)) ?_
      exact ⟨(g7, g17), trivial, (by repeat (first | exact kn_nil | refine kn_cons (by rfl) ?_)), (by rw [partL_zero]; exact (by repeat (first | exact List.Sublist.refl _ | exact List.nil_sublist _ | refine List.Sublist.cons_cons _ ?_ | refine List.Sublist.cons _ ?_ | exact Sbp.refl | exact Sbp.nil | refine Sbp.cons (by repeat (first | exact Rem.head | apply Rem.tail)) ?_ | exact Sbp.app | refine Sbp.skip ?_)))⟩
  · intro z gj hz
    obtain ⟨g, gm⟩ := z
    show CS _ _ _ _ _ (puts (mix _ _ _) [(7, .pointer (some ⟨g, 0, none⟩))]) ([⟨g, 26, [iv X, iv Y, iv (a : Int), iv (b : Int), .slice (some ⟨gm, 0, none⟩) xs.length xs.length]⟩, ⟨gm, 33, partL (madeF (fun x y => T x y (pixF xs X Y a b x y)) X Y a) xs.length 0⟩, ⟨g6, 26, [iv 0, iv 0, iv 0, iv 0, .slice none 0 0]⟩, ⟨g4, 96, [flt (u 0), flt (u 1), flt (u 2)]⟩, ⟨g3, 26, [iv X, iv Y, iv (a : Int), iv (b : Int), .slice (some ⟨bA, oA, none⟩) xs.length c]⟩])
    refine CS.seq ?_
    refine CS.seq ?_
    refine CS.region ?_
    refine RS.q rfl (QO.assign) ?_
    refine RS.nil ?_
    refine thenC_n ?_
    refine CS.block ?_
    refine CS.loop (X := Nat) (8 :: 9 :: 10 :: 11 :: 19 :: 20 :: 21 :: 22 :: 23 :: 24 :: 25 :: 26 :: 27 :: 28 :: 29 :: 30 :: 31 :: 32 :: 33 :: 34 :: 35 :: 36 :: 37 :: 38 :: 39 :: 40 :: 41 :: 42 :: 43 :: 44 :: 45 :: 46 :: 47 :: 48 :: 49 :: 50 :: 51 :: 52 :: 53 :: 54 :: 55 :: 56 :: 57 :: 58 :: 59 :: 60 :: 61 :: 62 :: 63 :: 64 :: 65 :: 66 :: 67 :: 68 :: 69 :: 70 :: 71 :: 72 :: 73 :: 74 :: []) (fun k => [(8, iv ((4 * k : Nat) : Int))]) (fun k => [⟨g, 26, [iv X, iv Y, iv (a : Int), iv (b : Int), .slice (some ⟨gm, 0, none⟩) xs.length xs.length]⟩, ⟨gm, 33, partL (madeF (fun x y => T x y (pixF xs X Y a b x y)) X Y a) xs.length (4 * k)⟩, ⟨g6, 26, [iv 0, iv 0, iv 0, iv 0, .slice none 0 0]⟩, ⟨g4, 96, [flt (u 0), flt (u 1), flt (u 2)]⟩, ⟨g3, 26, [iv X, iv Y, iv (a : Int), iv (b : Int), .slice (some ⟨bA, oA, none⟩) xs.length c]⟩]) (fun k => k ≤ a * b) (fun k => a * b - k) 0 (Nat.zero_le _) ?_ ?_ ?_
    · exact (by repeat (first | exact kn_nil | refine kn_cons (by rfl) ?_))
    · exact (by repeat (first | exact List.Sublist.refl _ | exact List.nil_sublist _ | refine List.Sublist.cons_cons _ ?_ | refine List.Sublist.cons _ ?_ | exact Sbp.refl | exact Sbp.nil | refine Sbp.cons (by repeat (first | exact Rem.head | apply Rem.tail)) ?_ | exact Sbp.app | refine Sbp.skip ?_))
    · intro k gj3 hz
      refine CS.seq ?_
      refine CS.seq ?_
      refine CS.region ?_
      refine RS.q rfl (QO.move) ?_
      first | (refine RS.q rfl (QO.add (by rfl) (by rfl) (by omega) (by omega)) ?_) | (refine RS.q rfl (QO.ibin (by rfl) (by rfl) trivial) ?_)
      refine RS.q rfl (QO.fieldAddr fo26_1 (by rfl)) ?_
      first | (refine RS.q rfl (QO.load ty24 (by rfl) (by repeat (first | exact List.Mem.head _ | refine List.Mem.tail _ ?_)) (by rfl)) ?_) | (refine RS.q rfl (QO.loadO ty24 (by rfl) (by assumption)) ?_) | (refine RS.q rfl (QO.load ty24 (by rfl) (by repeat (first | exact List.Mem.head _ | refine List.Mem.tail _ ?_)) (by assumption)) ?_)
      refine RS.q rfl (QO.lenS Try.underlying24 (by rfl)) ?_
      refine RS.q rfl (QO.leq (by rfl) (by rfl)) ?_
      refine RS.nil ?_
      refine thenC_n ?_
      refine CS.cond (by rfl) (fun hb0 => ?_) (fun hb0 => ?_)
      · have hb0p := of_decide_eq_true hb0
        refine CS.skip ?_
        refine thenC_n ?_
        refine CS.seq ?_
        refine CS.block ?_
        refine CS.seq ?_
        refine CS.region ?_
        have hkl : k < a * b := by omega
        have hkm : k % a < a := Nat.mod_lt _ (by omega)
        have hkd : k / a < b := div_lt_of ha.1 (by omega)
        obtain ⟨qm, hqm⟩ : ∃ q : Nat, k % a = q := ⟨_, rfl⟩
        obtain ⟨qd, hqd⟩ : ∃ q : Nat, k / a = q := ⟨_, rfl⟩
        rw [hqm] at hkm
        rw [hqd] at hkd
        refine RS.q rfl (QO.fieldAddr fo26_1 (by rfl)) ?_
        first | (refine RS.q rfl (QO.load ty24 (by rfl) (by repeat (first | exact List.Mem.head _ | refine List.Mem.tail _ ?_)) (by rfl)) ?_) | (refine RS.q rfl (QO.loadO ty24 (by rfl) (by assumption)) ?_) | (refine RS.q rfl (QO.load ty24 (by rfl) (by repeat (first | exact List.Mem.head _ | refine List.Mem.tail _ ?_)) (by assumption)) ?_)
        refine RS.q rfl (QO.move) ?_
        refine RS.q rfl (QO.move) ?_
        first | (refine RS.qv rfl (QO.add (by rfl) (by rfl) (by omega) (by omega)) (congrArg iv (show ((4 * k : Nat) : Int) + 4 = ((4 * k + 4 : Nat) : Int) by omega)) ?_) | (refine RS.qv rfl (QO.ibin (by rfl) (by rfl) trivial) (congrArg iv (show ((4 * k : Nat) : Int) + 4 = ((4 * k + 4 : Nat) : Int) by omega)) ?_)
        refine RS.q rfl (QO.cutLoHi Try.underlying24 ty33 (by rfl) (by rfl) (by rfl) (by omega) (by omega) (by omega)) ?_
        refine RS.qv rfl (QO.arrPtr Try.underlying35 (by rfl) (by omega)) (congrArg Value.pointer (show cutAt bA oA ((4 * k : Nat) : Int).toNat c 1 = some ⟨bA, oA + 4 * k, none⟩ from by rw [Int.toNat_natCast, cutAt_eq (by omega), Nat.mul_one])) ?_
        refine RS.q rfl (QO.loadOA ty35 (vs := [flt (xs.getD (4 * k + 0) 0), flt (xs.getD (4 * k + 1) 0), flt (xs.getD (4 * k + 2) 0), flt (xs.getD (4 * k + 3) 0)]) (by rfl) (four_at hcell (by omega)) (by rfl)) ?_
        refine RS.alloc rfl ty35 ?_
        intro g9
        first | refine RS.storeB ty35 (by rfl) (by rfl) (by rfl) (by rfl) (by rfl) (by repeat (first | exact Upd.head | apply Upd.tail)) (by rfl) ?_ | refine RS.storeP ty35 (by rfl) (by rfl) (by rfl) (by rfl) (by rfl) (by repeat (first | exact Upd.head | apply Upd.tail)) (by rfl) ?_
        refine RS.nil ?_
        refine thenC_n ?_
        refine CS.cut (X := Nat) (35 :: 36 :: 37 :: 38 :: 39 :: 40 :: 41 :: 42 :: 43 :: 44 :: 45 :: 46 :: 47 :: 48 :: 49 :: 50 :: 51 :: 52 :: 53 :: 54 :: 55 :: 56 :: 57 :: 58 :: 59 :: 60 :: []) (fun g9 => [(9, .pointer (some ⟨g9, 0, none⟩))]) (fun g9 => [⟨g9, 35, [flt (T (X + (qm : Int)) (Y + (qd : Int)) (fun c => xs.getD (4 * k + c) 0) 0), flt (T (X + (qm : Int)) (Y + (qd : Int)) (fun c => xs.getD (4 * k + c) 0) 1), flt (T (X + (qm : Int)) (Y + (qd : Int)) (fun c => xs.getD (4 * k + c) 0) 2), flt (T (X + (qm : Int)) (Y + (qd : Int)) (fun c => xs.getD (4 * k + c) 0) 3)]⟩, ⟨g, 26, [iv X, iv Y, iv (a : Int), iv (b : Int), .slice (some ⟨gm, 0, none⟩) xs.length xs.length]⟩, ⟨gm, 33, partL (madeF (fun x y => T x y (pixF xs X Y a b x y)) X Y a) xs.length (4 * k)⟩, ⟨g6, 26, [iv 0, iv 0, iv 0, iv 0, .slice none 0 0]⟩, ⟨g4, 96, [flt (u 0), flt (u 1), flt (u 2)]⟩, ⟨g3, 26, [iv X, iv Y, iv (a : Int), iv (b : Int), .slice (some ⟨bA, oA, none⟩) xs.length c]⟩]) (fun g9 => True) ?_ ?_
        · refine CS.draw 26 rfl (by kernel_rfl) (by kernel_rfl) ?_
          refine RT.take (i := 0) rfl (by kernel_rfl) rfl (QO.move) ?_
          refine RT.take (i := 1) rfl (by kernel_rfl) rfl (QO.fieldAddr fo26_0 (by rfl)) ?_
          refine RT.take (i := 2) rfl (by kernel_rfl) rfl (QO.fieldAddr fo23_0 (by rfl)) ?_
          first | (refine RT.take (i := 3) rfl (by kernel_rfl) rfl (QO.load ty3 (by rfl) (by repeat (first | exact List.Mem.head _ | refine List.Mem.tail _ ?_)) (by rfl)) ?_) | (refine RT.take (i := 3) rfl (by kernel_rfl) rfl (QO.loadO ty3 (by rfl) (by assumption)) ?_) | (refine RT.take (i := 3) rfl (by kernel_rfl) rfl (QO.load ty3 (by rfl) (by repeat (first | exact List.Mem.head _ | refine List.Mem.tail _ ?_)) (by assumption)) ?_)
          refine RT.take (i := 4) rfl (by kernel_rfl) rfl (QO.move) ?_
          refine RT.takev (i := 5) rfl (by kernel_rfl) rfl (QO.quo (by rfl) (by rfl) (by omega) (by omega) (by omega)) (congrArg iv (show ((4 * k : Nat) : Int).tdiv 4 = (k : Int) from by rw [tdiv4]; congr 1; omega)) ?_
          refine RT.take (i := 6) rfl (by kernel_rfl) rfl (QO.fieldAddr fo26_0 (by rfl)) ?_
          refine RT.take (i := 7) rfl (by kernel_rfl) rfl (QO.fieldAddr fo23_2 (by rfl)) ?_
          first | (refine RT.take (i := 8) rfl (by kernel_rfl) rfl (QO.load ty3 (by rfl) (by repeat (first | exact List.Mem.head _ | refine List.Mem.tail _ ?_)) (by rfl)) ?_) | (refine RT.take (i := 8) rfl (by kernel_rfl) rfl (QO.loadO ty3 (by rfl) (by assumption)) ?_) | (refine RT.take (i := 8) rfl (by kernel_rfl) rfl (QO.load ty3 (by rfl) (by repeat (first | exact List.Mem.head _ | refine List.Mem.tail _ ?_)) (by assumption)) ?_)
          refine RT.takev (i := 9) rfl (by kernel_rfl) rfl (QO.rem (by rfl) (by rfl) (by omega)) (congrArg iv (show ((k : Int)).tmod (a : Int) = (qm : Int) from by rw [tmod_cast, hqm])) ?_
          first | (refine RT.take (i := 10) rfl (by kernel_rfl) rfl (QO.add (by rfl) (by rfl) (by omega) (by omega)) ?_) | (refine RT.take (i := 10) rfl (by kernel_rfl) rfl (QO.ibin (by rfl) (by rfl) trivial) ?_)
          refine RT.take (i := 11) rfl (by kernel_rfl) rfl (QO.fieldAddr fo26_0 (by rfl)) ?_
          refine RT.take (i := 12) rfl (by kernel_rfl) rfl (QO.fieldAddr fo23_1 (by rfl)) ?_
          first | (refine RT.take (i := 13) rfl (by kernel_rfl) rfl (QO.load ty3 (by rfl) (by repeat (first | exact List.Mem.head _ | refine List.Mem.tail _ ?_)) (by rfl)) ?_) | (refine RT.take (i := 13) rfl (by kernel_rfl) rfl (QO.loadO ty3 (by rfl) (by assumption)) ?_) | (refine RT.take (i := 13) rfl (by kernel_rfl) rfl (QO.load ty3 (by rfl) (by repeat (first | exact List.Mem.head _ | refine List.Mem.tail _ ?_)) (by assumption)) ?_)
          refine RT.take (i := 14) rfl (by kernel_rfl) rfl (QO.move) ?_
          refine RT.takev (i := 15) rfl (by kernel_rfl) rfl (QO.quo (by rfl) (by rfl) (by omega) (by omega) (by omega)) (congrArg iv (show ((4 * k : Nat) : Int).tdiv 4 = (k : Int) from by rw [tdiv4]; congr 1; omega)) ?_
          refine RT.take (i := 16) rfl (by kernel_rfl) rfl (QO.fieldAddr fo26_0 (by rfl)) ?_
          refine RT.take (i := 17) rfl (by kernel_rfl) rfl (QO.fieldAddr fo23_2 (by rfl)) ?_
          first | (refine RT.take (i := 18) rfl (by kernel_rfl) rfl (QO.load ty3 (by rfl) (by repeat (first | exact List.Mem.head _ | refine List.Mem.tail _ ?_)) (by rfl)) ?_) | (refine RT.take (i := 18) rfl (by kernel_rfl) rfl (QO.loadO ty3 (by rfl) (by assumption)) ?_) | (refine RT.take (i := 18) rfl (by kernel_rfl) rfl (QO.load ty3 (by rfl) (by repeat (first | exact List.Mem.head _ | refine List.Mem.tail _ ?_)) (by assumption)) ?_)
          refine RT.takev (i := 19) rfl (by kernel_rfl) rfl (QO.quo (by rfl) (by rfl) (by omega) (by omega) (by omega)) (congrArg iv (show ((k : Int)).tdiv (a : Int) = (qd : Int) from by rw [tdiv_cast, hqd])) ?_
          first | (refine RT.take (i := 20) rfl (by kernel_rfl) rfl (QO.add (by rfl) (by rfl) (by omega) (by omega)) ?_) | (refine RT.take (i := 20) rfl (by kernel_rfl) rfl (QO.ibin (by rfl) (by rfl) trivial) ?_)
          first | (refine RT.take (i := 21) rfl (by kernel_rfl) rfl (QO.loadB ty96 (by rfl) (by repeat (first | exact List.Mem.head _ | refine List.Mem.tail _ ?_)) (by rfl)) ?_) | (refine RT.take (i := 21) rfl (by kernel_rfl) rfl (QO.loadA ty96 (by rfl) (by repeat (first | exact List.Mem.head _ | refine List.Mem.tail _ ?_)) (by rfl) (by rfl)) ?_) | (refine RT.take (i := 21) rfl (by kernel_rfl) rfl (QO.loadOA ty96 (by rfl) (by assumption) (by rfl)) ?_)
          first | (refine RT.take (i := 22) rfl (by kernel_rfl) rfl (QO.loadB ty35 (by rfl) (by repeat (first | exact List.Mem.head _ | refine List.Mem.tail _ ?_)) (by rfl)) ?_) | (refine RT.take (i := 22) rfl (by kernel_rfl) rfl (QO.loadA ty35 (by rfl) (by repeat (first | exact List.Mem.head _ | refine List.Mem.tail _ ?_)) (by rfl) (by rfl)) ?_) | (refine RT.take (i := 22) rfl (by kernel_rfl) rfl (QO.loadOA ty35 (by rfl) (by assumption) (by rfl)) ?_)
          first | (refine RT.take (i := 24) rfl (by kernel_rfl) rfl (QO.loadB ty35 (by rfl) (by repeat (first | exact List.Mem.head _ | refine List.Mem.tail _ ?_)) (by rfl)) ?_) | (refine RT.take (i := 24) rfl (by kernel_rfl) rfl (QO.loadA ty35 (by rfl) (by repeat (first | exact List.Mem.head _ | refine List.Mem.tail _ ?_)) (by rfl) (by rfl)) ?_) | (refine RT.take (i := 24) rfl (by kernel_rfl) rfl (QO.loadOA ty35 (by rfl) (by assumption) (by rfl)) ?_)
          refine RT.one (i := 23) (by kernel_rfl) rfl rfl ?_
          refine RS.call rfl (by rfl) ok217 (by rfl) (fun w ho => luma_ u (fun c => xs.getD (4 * k + c) 0) _) ?_
          rintro _ _ ⟨rfl, rfl⟩
          refine RS.nil ⟨(by repeat (first | exact List.Sublist.refl _ | exact List.nil_sublist _ | refine List.Sublist.cons_cons _ ?_ | refine List.Sublist.cons _ ?_ | exact Sbp.refl | exact Sbp.nil | refine Sbp.cons (by repeat (first | exact Rem.head | apply Rem.tail)) ?_ | exact Sbp.app | refine Sbp.skip ?_)), ?_⟩
          refine RT.one (i := 25) (by kernel_rfl) rfl rfl ?_
          refine RS.call rfl (by rfl) hok (by rfl) (fun w ho => hf _ _ ho qm qd (fun c => xs.getD (4 * k + c) 0) hkm hkd) ?_
          rintro _ _ ⟨rfl, rfl⟩
          refine RS.nil ⟨(by repeat (first | exact List.Sublist.refl _ | exact List.nil_sublist _ | refine List.Sublist.cons_cons _ ?_ | refine List.Sublist.cons _ ?_ | exact Sbp.refl | exact Sbp.nil | refine Sbp.cons (by repeat (first | exact Rem.head | apply Rem.tail)) ?_ | exact Sbp.app | refine Sbp.skip ?_)), ?_⟩
          refine RT.tail (i := 26) (by kernel_rfl) rfl rfl ?_
          first | refine RS.storeB ty35 (by rfl) (by rfl) (by rfl) (by rfl) (by rfl) (by repeat (first | exact Upd.head | apply Upd.tail)) (by rfl) ?_ | refine RS.storeP ty35 (by rfl) (by rfl) (by rfl) (by rfl) (by rfl) (by repeat (first | exact Upd.head | apply Upd.tail)) (by rfl) ?_
          refine RS.nil ?_
          refine RT.done (by kernel_rfl) ?_
          refine cutQ_n (by intro t ht; repeat (first | with_reducible exact rfl | exact frame_puts ht (frame_mix ht) _ rfl | (refine frame_put rfl ht ?_) | (refine frame_puts ht ?_ _ rfl) | exact frame_mix ht | (refine frame_mix2 rfl ht ?_) | exact rfl)) ?_
          exact ⟨g9, trivial, (by repeat (first | exact kn_nil | refine kn_cons (by rfl) ?_)), (by repeat (first | exact List.Sublist.refl _ | exact List.nil_sublist _ | refine List.Sublist.cons_cons _ ?_ | refine List.Sublist.cons _ ?_ | exact Sbp.refl | exact Sbp.nil | refine Sbp.cons (by repeat (first | exact Rem.head | apply Rem.tail)) ?_ | exact Sbp.app | refine Sbp.skip ?_))⟩
        · intro g9 gj hz
          refine CS.seq ?_
          refine CS.region ?_
          first | (refine RS.q rfl (QO.loadB ty35 (by rfl) (by repeat (first | exact List.Mem.head _ | refine List.Mem.tail _ ?_)) (by rfl)) ?_) | (refine RS.q rfl (QO.loadA ty35 (by rfl) (by repeat (first | exact List.Mem.head _ | refine List.Mem.tail _ ?_)) (by rfl) (by rfl)) ?_) | (refine RS.q rfl (QO.loadOA ty35 (by rfl) (by assumption) (by rfl)) ?_)
          refine RS.q rfl (QO.move) ?_
          refine RS.nil ?_
          refine thenC_n ?_
          refine CS.block ?_
          refine CS.loop (X := Nat) (10 :: 11 :: 62 :: 63 :: 64 :: 65 :: 66 :: 67 :: 68 :: 69 :: 70 :: 71 :: 72 :: 73 :: 74 :: []) (fun cc => [(62, iv (cc : Int))]) (fun cc => [⟨g9, 35, [flt (T (X + (qm : Int)) (Y + (qd : Int)) (fun c => xs.getD (4 * k + c) 0) 0), flt (T (X + (qm : Int)) (Y + (qd : Int)) (fun c => xs.getD (4 * k + c) 0) 1), flt (T (X + (qm : Int)) (Y + (qd : Int)) (fun c => xs.getD (4 * k + c) 0) 2), flt (T (X + (qm : Int)) (Y + (qd : Int)) (fun c => xs.getD (4 * k + c) 0) 3)]⟩, ⟨g, 26, [iv X, iv Y, iv (a : Int), iv (b : Int), .slice (some ⟨gm, 0, none⟩) xs.length xs.length]⟩, ⟨gm, 33, partL (madeF (fun x y => T x y (pixF xs X Y a b x y)) X Y a) xs.length (4 * k + cc)⟩, ⟨g6, 26, [iv 0, iv 0, iv 0, iv 0, .slice none 0 0]⟩, ⟨g4, 96, [flt (u 0), flt (u 1), flt (u 2)]⟩, ⟨g3, 26, [iv X, iv Y, iv (a : Int), iv (b : Int), .slice (some ⟨bA, oA, none⟩) xs.length c]⟩]) (fun cc => cc ≤ 4) (fun cc => 4 - cc) 0 (by omega) ?_ ?_ ?_
          · exact (by repeat (first | exact kn_nil | refine kn_cons (by rfl) ?_))
          · exact (by repeat (first | exact List.Sublist.refl _ | exact List.nil_sublist _ | refine List.Sublist.cons_cons _ ?_ | refine List.Sublist.cons _ ?_ | exact Sbp.refl | exact Sbp.nil | refine Sbp.cons (by repeat (first | exact Rem.head | apply Rem.tail)) ?_ | exact Sbp.app | refine Sbp.skip ?_))
          · intro cc gj8 hz
            refine CS.seq ?_
            refine CS.region ?_
            refine RS.q rfl (QO.lss (by rfl) (by rfl)) ?_
            refine RS.nil ?_
            refine thenC_n ?_
            refine CS.seq ?_
            refine CS.cond (by rfl) (fun hb1 => ?_) (fun hb1 => ?_)
            · have hb1p := of_decide_eq_true hb1
              refine CS.skip ?_
              refine thenC_n ?_
              refine CS.seq ?_
              refine CS.block ?_
              refine CS.seq ?_
              refine CS.region ?_
              refine RS.q rfl (QO.move) ?_
              refine RS.q rfl (QO.index1 Try.underlying35 ty33 (by rfl) (by rfl) (by omega) (by omega) (idx4i (fun c => flt (T (X + (qm : Int)) (Y + (qd : Int)) (fun c => xs.getD (4 * k + c) 0) c)) cc (by omega))) ?_
              refine RS.q rfl (QO.assign) ?_
              refine RS.q rfl (QO.assign) ?_
              refine RS.nil ?_
              refine thenC_n ?_
              refine CS.draw 8 rfl (by kernel_rfl) (by kernel_rfl) ?_
              refine RT.take (i := 0) rfl (by kernel_rfl) rfl (QO.fieldAddr fo26_1 (by rfl)) ?_
              first | (refine RT.take (i := 1) rfl (by kernel_rfl) rfl (QO.load ty24 (by rfl) (by repeat (first | exact List.Mem.head _ | refine List.Mem.tail _ ?_)) (by rfl)) ?_) | (refine RT.take (i := 1) rfl (by kernel_rfl) rfl (QO.loadO ty24 (by rfl) (by assumption)) ?_) | (refine RT.take (i := 1) rfl (by kernel_rfl) rfl (QO.load ty24 (by rfl) (by repeat (first | exact List.Mem.head _ | refine List.Mem.tail _ ?_)) (by assumption)) ?_)
              refine RT.take (i := 2) rfl (by kernel_rfl) rfl (QO.move) ?_
              refine RT.take (i := 3) rfl (by kernel_rfl) rfl (QO.move) ?_
              first | (refine RT.takev (i := 4) rfl (by kernel_rfl) rfl (QO.add (by rfl) (by rfl) (by omega) (by omega)) (congrArg iv (show ((4 * k : Nat) : Int) + (cc : Int) = ((4 * k + cc : Nat) : Int) by omega)) ?_) | (refine RT.takev (i := 4) rfl (by kernel_rfl) rfl (QO.ibin (by rfl) (by rfl) trivial) (congrArg iv (show ((4 * k : Nat) : Int) + (cc : Int) = ((4 * k + cc : Nat) : Int) by omega)) ?_)
              refine RT.take (i := 5) rfl (by kernel_rfl) rfl (QO.move) ?_
              refine RT.one (i := 6) (by kernel_rfl) rfl rfl ?_
              refine RS.call rfl (by rfl) ok117 (by rfl) (fun w ho => clean _ _) ?_
              rintro _ _ ⟨rfl, rfl⟩
              refine RS.nil ⟨(by repeat (first | exact List.Sublist.refl _ | exact List.nil_sublist _ | refine List.Sublist.cons_cons _ ?_ | refine List.Sublist.cons _ ?_ | exact Sbp.refl | exact Sbp.nil | refine Sbp.cons (by repeat (first | exact Rem.head | apply Rem.tail)) ?_ | exact Sbp.app | refine Sbp.skip ?_)), ?_⟩
              first | (refine RT.take (i := 7) rfl (by kernel_rfl) rfl (QO.idx0 Try.underlying24 ty33 (by rfl) (by rfl) (by rfl) (by omega)) ?_) | (refine RT.take (i := 7) rfl (by kernel_rfl) rfl (QO.idxn Try.underlying24 ty33 (by rfl) (by rfl) (by rfl) (by omega)) ?_) | (refine RT.take (i := 7) rfl (by kernel_rfl) rfl (QO.idx1 Try.underlying24 ty33 (by rfl) (by rfl) (by omega) (by omega)) ?_)
              refine RT.tail (i := 8) (by kernel_rfl) rfl rfl ?_
              refine RS.store1e ty33 rfl (by rfl) (by rfl) (by rfl) (partL_set (madeF (fun x y => T x y (pixF xs X Y a b x y)) X Y a) xs.length (4 * k + cc) _ (by rw [madeF_pixT hkl (by omega) T, hqm, hqd]) (by omega)) (by repeat (first | exact Upd.head | apply Upd.tail)) (by rw [partL_len]; omega) ?_
              refine RS.nil ?_
              refine RT.done (by kernel_rfl) ?_
              refine blockC_n ?_
              refine thenC_n ?_
              refine CS.region ?_
              first | (refine RS.q rfl (QO.add (by rfl) (by rfl) (by omega) (by omega)) ?_) | (refine RS.q rfl (QO.ibin (by rfl) (by rfl) trivial) ?_)
              refine RS.q rfl (QO.move) ?_
              refine RS.nil ?_
              refine loopQ_n (by intro t ht; repeat (first | with_reducible exact rfl | exact frame_puts ht (frame_mix ht) _ rfl | (refine frame_put rfl ht ?_) | (refine frame_puts ht ?_ _ rfl) | exact frame_mix ht | (refine frame_mix2 rfl ht ?_) | exact rfl)) ?_
              exact ⟨cc + 1, by omega, by omega, (by repeat (first | exact kn_nil | refine kn_cons (by rfl) ?_)), (by repeat (first | exact List.Sublist.refl _ | exact List.nil_sublist _ | refine List.Sublist.cons_cons _ ?_ | refine List.Sublist.cons _ ?_ | exact Sbp.refl | exact Sbp.nil | refine Sbp.cons (by repeat (first | exact Rem.head | apply Rem.tail)) ?_ | exact Sbp.app | refine Sbp.skip ?_))⟩
            · have hb1p := of_decide_eq_false hb1
              refine CS.exit ?_
              refine thenC_x ?_
              refine loopQ_x ?_
              refine blockC_x ?_
              refine blockC_n ?_
              refine thenC_n ?_
              refine CS.region ?_
              refine RS.q rfl (QO.move) ?_
              first | (refine RS.q rfl (QO.add (by rfl) (by rfl) (by omega) (by omega)) ?_) | (refine RS.q rfl (QO.ibin (by rfl) (by rfl) trivial) ?_)
              refine RS.q rfl (QO.assign) ?_
              refine RS.nil ?_
              refine loopQ_n (by intro t ht; repeat (first | with_reducible exact rfl | exact frame_puts ht (frame_mix ht) _ rfl | (refine frame_put rfl ht ?_) | (refine frame_puts ht ?_ _ rfl) | exact frame_mix ht | (refine frame_mix2 rfl ht ?_) | exact rfl)) ?_
              exact ⟨k + 1, by omega, by omega, kn_cons (congrArg iv (show ((4 * k : Nat) : Int) + 4 = ((4 * (k + 1) : Nat) : Int) by omega)) kn_nil, (by rw [show 4 * (k + 1) = 4 * k + cc by omega]; exact (by repeat (first | exact List.Sublist.refl _ | exact List.nil_sublist _ | refine List.Sublist.cons_cons _ ?_ | refine List.Sublist.cons _ ?_ | exact Sbp.refl | exact Sbp.nil | refine Sbp.cons (by repeat (first | exact Rem.head | apply Rem.tail)) ?_ | exact Sbp.app | refine Sbp.skip ?_)))⟩
      · have hb0p := of_decide_eq_false hb0
        refine CS.exit ?_
        refine thenC_x ?_
        refine loopQ_x ?_
        refine blockC_x ?_
        refine thenC_n ?_
        refine CS.seq ?_
        refine CS.region ?_
        first | (refine RS.q rfl (QO.loadB ty26 (by rfl) (by repeat (first | exact List.Mem.head _ | refine List.Mem.tail _ ?_)) (by rfl)) ?_) | (refine RS.q rfl (QO.loadA ty26 (by rfl) (by repeat (first | exact List.Mem.head _ | refine List.Mem.tail _ ?_)) (by rfl) (by rfl)) ?_) | (refine RS.q rfl (QO.loadOA ty26 (by rfl) (by assumption) (by rfl)) ?_)
        first | refine RS.storeB ty26 (by rfl) (by rfl) (by rfl) (by rfl) (by rfl) (by repeat (first | exact Upd.head | apply Upd.tail)) (by rfl) ?_ | refine RS.storeP ty26 (by rfl) (by rfl) (by rfl) (by rfl) (by rfl) (by repeat (first | exact Upd.head | apply Upd.tail)) (by rfl) ?_
        refine RS.nil ?_
        refine thenC_n ?_
        refine CS.ret ?_
        refine retQ.mk (H' := [⟨gm, 33, (madeV (fun x y => T x y (pixF xs X Y a b x y)) X Y a xs.length).map flt⟩]) (.inr rfl) (RVs.cellA ty26 (by rfl) (by repeat (first | exact List.Mem.head _ | refine List.Mem.tail _ ?_)) (by rfl) RVs.nil) (by obtain rfl : k = a * b := (by omega); rw [← hN, partL_full]; exact (by repeat (first | exact List.Sublist.refl _ | exact List.nil_sublist _ | refine List.Sublist.cons_cons _ ?_ | refine List.Sublist.cons _ ?_ | exact Sbp.refl | exact Sbp.nil | refine Sbp.cons (by repeat (first | exact Rem.head | apply Rem.tail)) ?_ | exact Sbp.app | refine Sbp.skip ?_))) ?_
        exact ⟨gm, rfl, rfl⟩

set_option maxRecDepth 100000 in
theorem false1 (x y : Int) (l g : Nat) (q : Nat → Nat) (A2 : Option Addr) (nb c2 : Nat) (bs : List Nat) (W : World) (hg : W.cell? ⟨g, 0, none⟩ = some (.slice A2 nb c2)) (hn : bs.length = 5 * nb) (hA : FS W A2 bs) (hm : nb ≤ 32) : Fn_ Try.prog 173 #[iv x, iv y, flt l, pxv q, .pointer (some ⟨g, 0, none⟩)] W (fun v H => v = pxv (falseQ bs l (q 3) nb) ∧ H = []) := by
  refine Fn_.intro Try.func173 rfl rfl (by rfl) ?_
  refine CS.seq ?_
  refine CS.region ?_
  refine RS.box rfl (by rfl) (by rfl) ?_
  intro g8
  refine RS.alloc rfl ty35 ?_
  intro g9
  refine RS.nil ?_
  refine thenC_n ?_
  refine CS.seq ?_
  refine CS.region ?_
  refine RS.q rfl (QO.move) ?_
  refine RS.q rfl (QO.move) ?_
  refine RS.q rfl (QO.move) ?_
  first | (refine RS.q rfl (QO.idxArr0 Try.underlying35 ty33 (by rfl) (by rfl) (by rfl) (by omega)) ?_) | (refine RS.q rfl (QO.idxArrn Try.underlying35 ty33 (by rfl) (by rfl) (by rfl) (by omega)) ?_) | (refine RS.q rfl (QO.idxArr Try.underlying35 ty33 (by rfl) (by rfl) (by omega) (by omega)) ?_)
  first | (refine RS.q rfl (QO.load ty33 (by rfl) (by repeat (first | exact List.Mem.head _ | refine List.Mem.tail _ ?_)) (by rfl)) ?_) | (refine RS.q rfl (QO.loadO ty33 (by rfl) (by assumption)) ?_) | (refine RS.q rfl (QO.load ty33 (by rfl) (by repeat (first | exact List.Mem.head _ | refine List.Mem.tail _ ?_)) (by assumption)) ?_)
  refine RS.q rfl (QO.buildA Try.underlying35 ty35 ty33 (by rfl)) ?_
  refine RS.alloc rfl ty35 ?_
  intro g10
  first | refine RS.storeB ty35 (by rfl) (by rfl) (by rfl) (by rfl) (by rfl) (by repeat (first | exact Upd.head | apply Upd.tail)) (by rfl) ?_ | refine RS.storeP ty35 (by rfl) (by rfl) (by rfl) (by rfl) (by rfl) (by repeat (first | exact Upd.head | apply Upd.tail)) (by rfl) ?_
  refine RS.nil ?_
  refine thenC_n ?_
  refine CS.seq ?_
  refine CS.seq ?_
  refine CS.region ?_
  refine RS.q rfl (QO.loadO ty97 (by rfl) hg) ?_
  refine RS.q rfl (QO.lenS Try.underlying97 (by rfl)) ?_
  refine RS.q rfl (QO.move) ?_
  refine RS.nil ?_
  refine thenC_n ?_
  refine CS.block ?_
  refine CS.loop (X := Nat) (12 :: 21 :: 22 :: 23 :: 24 :: 25 :: 26 :: 27 :: 28 :: 29 :: 30 :: 31 :: []) (fun k => [(21, iv (k : Int))]) (fun k => [⟨g10, 35, [flt (falseQ bs l (q 3) k 0), flt (falseQ bs l (q 3) k 1), flt (falseQ bs l (q 3) k 2), flt (falseQ bs l (q 3) k 3)]⟩, ⟨g9, 35, [flt 0, flt 0, flt 0, flt 0]⟩, ⟨g8, 35, [flt (q 0), flt (q 1), flt (q 2), flt (q 3)]⟩]) (fun k => k ≤ nb) (fun k => nb - k) 0 (Nat.zero_le _) ?_ ?_ ?_
  · exact (by repeat (first | exact kn_nil | refine kn_cons (by rfl) ?_))
  · exact (by repeat (first | exact List.Sublist.refl _ | exact List.nil_sublist _ | refine List.Sublist.cons_cons _ ?_ | refine List.Sublist.cons _ ?_ | exact Sbp.refl | exact Sbp.nil | refine Sbp.cons (by repeat (first | exact Rem.head | apply Rem.tail)) ?_ | exact Sbp.app | refine Sbp.skip ?_))
  · intro k gj3 hz
    refine CS.seq ?_
    refine CS.region ?_
    refine RS.q rfl (QO.lss (by rfl) (by rfl)) ?_
    refine RS.nil ?_
    refine thenC_n ?_
    refine CS.seq ?_
    refine CS.cond (by rfl) (fun hb0 => ?_) (fun hb0 => ?_)
    · have hb0p := of_decide_eq_true hb0
      refine CS.skip ?_
      refine thenC_n ?_
      refine CS.seq ?_
      refine CS.block ?_
      refine CS.seq ?_
      refine CS.region ?_
      obtain ⟨bA, oA, rfl, hcell⟩ := hA (by omega)
      refine RS.q rfl (QO.idx Try.underlying97 ty163 (by rfl) (by rfl) (by omega) (by omega)) ?_
      refine RS.q rfl (QO.loadOA ty163 (vs := [flt (bs.getD (5 * k) 0), flt (bs.getD (5 * k + 1) 0), flt (bs.getD (5 * k + 2) 0), flt (bs.getD (5 * k + 3) 0), flt (bs.getD (5 * k + 4) 0)]) (by rfl) (band_at hcell (by omega)) (by rfl)) ?_
      refine RS.alloc rfl ty163 ?_
      intro g12
      first | refine RS.storeB ty163 (by rfl) (by rfl) (by rfl) (by rfl) (by rfl) (by repeat (first | exact Upd.head | apply Upd.tail)) (by rfl) ?_ | refine RS.storeP ty163 (by rfl) (by rfl) (by rfl) (by rfl) (by rfl) (by repeat (first | exact Upd.head | apply Upd.tail)) (by rfl) ?_
      refine RS.nil ?_
      refine thenC_n ?_
      refine CS.seq ?_
      refine CS.region ?_
      refine RS.q rfl (QO.fieldAddr fo163_0 (by rfl)) ?_
      first | (refine RS.q rfl (QO.load ty33 (by rfl) (by repeat (first | exact List.Mem.head _ | refine List.Mem.tail _ ?_)) (by rfl)) ?_) | (refine RS.q rfl (QO.loadO ty33 (by rfl) (by assumption)) ?_) | (refine RS.q rfl (QO.load ty33 (by rfl) (by repeat (first | exact List.Mem.head _ | refine List.Mem.tail _ ?_)) (by assumption)) ?_)
      refine RS.q rfl (QO.move) ?_
      refine RS.q rfl (QO.fcmp32 (by rfl) (by rfl) (by simp)) ?_
      refine RS.nil ?_
      refine thenC_n ?_
      refine CS.cond (by rfl) (fun hb1 => ?_) (fun hb1 => ?_)
      · refine CS.region ?_
        refine RS.q rfl (QO.fieldAddr fo163_1 (by rfl)) ?_
        first | (refine RS.q rfl (QO.loadB ty35 (by rfl) (by repeat (first | exact List.Mem.head _ | refine List.Mem.tail _ ?_)) (by rfl)) ?_) | (refine RS.q rfl (QO.loadA ty35 (by rfl) (by repeat (first | exact List.Mem.head _ | refine List.Mem.tail _ ?_)) (by rfl) (by rfl)) ?_) | (refine RS.q rfl (QO.loadOA ty35 (by rfl) (by assumption) (by rfl)) ?_)
        first | refine RS.storeB ty35 (by rfl) (by rfl) (by rfl) (by rfl) (by rfl) (by repeat (first | exact Upd.head | apply Upd.tail)) (by rfl) ?_ | refine RS.storeP ty35 (by rfl) (by rfl) (by rfl) (by rfl) (by rfl) (by repeat (first | exact Upd.head | apply Upd.tail)) (by rfl) ?_
        refine RS.nil ?_
        refine blockC_n ?_
        refine thenC_n ?_
        refine CS.region ?_
        first | (refine RS.q rfl (QO.add (by rfl) (by rfl) (by omega) (by omega)) ?_) | (refine RS.q rfl (QO.ibin (by rfl) (by rfl) trivial) ?_)
        refine RS.q rfl (QO.move) ?_
        refine RS.nil ?_
        refine loopQ_n (by intro t ht; repeat (first | with_reducible exact rfl | exact frame_puts ht (frame_mix ht) _ rfl | (refine frame_put rfl ht ?_) | (refine frame_puts ht ?_ _ rfl) | exact frame_mix ht | (refine frame_mix2 rfl ht ?_) | exact rfl)) ?_
        exact ⟨k + 1, by omega, by omega, (by repeat (first | exact kn_nil | refine kn_cons (by rfl) ?_)), (by rw [falseQ_T hb1]; exact (by repeat (first | exact List.Sublist.refl _ | exact List.nil_sublist _ | refine List.Sublist.cons_cons _ ?_ | refine List.Sublist.cons _ ?_ | exact Sbp.refl | exact Sbp.nil | refine Sbp.cons (by repeat (first | exact Rem.head | apply Rem.tail)) ?_ | exact Sbp.app | refine Sbp.skip ?_)))⟩
      · refine CS.skip ?_
        refine blockC_n ?_
        refine thenC_n ?_
        refine CS.region ?_
        first | (refine RS.q rfl (QO.add (by rfl) (by rfl) (by omega) (by omega)) ?_) | (refine RS.q rfl (QO.ibin (by rfl) (by rfl) trivial) ?_)
        refine RS.q rfl (QO.move) ?_
        refine RS.nil ?_
        refine loopQ_n (by intro t ht; repeat (first | with_reducible exact rfl | exact frame_puts ht (frame_mix ht) _ rfl | (refine frame_put rfl ht ?_) | (refine frame_puts ht ?_ _ rfl) | exact frame_mix ht | (refine frame_mix2 rfl ht ?_) | exact rfl)) ?_
        exact ⟨k + 1, by omega, by omega, (by repeat (first | exact kn_nil | refine kn_cons (by rfl) ?_)), (by rw [falseQ_F hb1]; exact (by repeat (first | exact List.Sublist.refl _ | exact List.nil_sublist _ | refine List.Sublist.cons_cons _ ?_ | refine List.Sublist.cons _ ?_ | exact Sbp.refl | exact Sbp.nil | refine Sbp.cons (by repeat (first | exact Rem.head | apply Rem.tail)) ?_ | exact Sbp.app | refine Sbp.skip ?_)))⟩
    · have hb0p := of_decide_eq_false hb0
      refine CS.exit ?_
      refine thenC_x ?_
      refine loopQ_x ?_
      refine blockC_x ?_
      refine thenC_n ?_
      refine CS.seq ?_
      refine CS.region ?_
      first | (refine RS.q rfl (QO.loadB ty35 (by rfl) (by repeat (first | exact List.Mem.head _ | refine List.Mem.tail _ ?_)) (by rfl)) ?_) | (refine RS.q rfl (QO.loadA ty35 (by rfl) (by repeat (first | exact List.Mem.head _ | refine List.Mem.tail _ ?_)) (by rfl) (by rfl)) ?_) | (refine RS.q rfl (QO.loadOA ty35 (by rfl) (by assumption) (by rfl)) ?_)
      first | refine RS.storeB ty35 (by rfl) (by rfl) (by rfl) (by rfl) (by rfl) (by repeat (first | exact Upd.head | apply Upd.tail)) (by rfl) ?_ | refine RS.storeP ty35 (by rfl) (by rfl) (by rfl) (by rfl) (by rfl) (by repeat (first | exact Upd.head | apply Upd.tail)) (by rfl) ?_
      refine RS.nil ?_
      refine thenC_n ?_
      refine CS.ret ?_
      refine retQ.mk (H' := []) (.inr rfl) (RVs.cellA ty35 (by rfl) (by repeat (first | exact List.Mem.head _ | refine List.Mem.tail _ ?_)) (by rfl) RVs.nil) (List.nil_sublist _) ?_
      obtain rfl : k = nb := by omega
      exact ⟨rfl, rfl⟩

set_option maxRecDepth 100000 in
theorem rfalse1 (g1 g2 : Nat) (u q : Nat → Nat) (A2 : Option Addr) (nb c2 : Nat) (bs : List Nat) (W : World) (hg1 : ∀ j v, [flt (u 0), flt (u 1), flt (u 2)][j]? = some v → W.cell? ((⟨g1, 0, none⟩ : Addr).add j) = some v) (hg : W.cell? ⟨g2, 0, none⟩ = some (.slice A2 nb c2)) (hn : bs.length = 5 * nb) (hA : FS W A2 bs) (hm : nb ≤ 32) : Fn_ Try.prog 174 #[pxv q, .pointer (some ⟨g1, 0, none⟩), .pointer (some ⟨g2, 0, none⟩)] W (fun v H => v = pxv (falT bs u nb q) ∧ H = []) := by
  refine Fn_.intro Try.func174 rfl rfl (by rfl) ?_
  refine CS.seq ?_
  refine CS.region ?_
  refine RS.box rfl (by rfl) (by rfl) ?_
  intro g3
  refine RS.alloc rfl ty35 ?_
  intro g4
  refine RS.nil ?_
  refine thenC_n ?_
  refine CS.seq ?_
  refine CS.region ?_
  refine RS.q rfl (QO.loadOA ty96 (vs := [flt (u 0), flt (u 1), flt (u 2)]) (by rfl) hg1 (by rfl)) ?_
  first | (refine RS.q rfl (QO.loadB ty35 (by rfl) (by repeat (first | exact List.Mem.head _ | refine List.Mem.tail _ ?_)) (by rfl)) ?_) | (refine RS.q rfl (QO.loadA ty35 (by rfl) (by repeat (first | exact List.Mem.head _ | refine List.Mem.tail _ ?_)) (by rfl) (by rfl)) ?_) | (refine RS.q rfl (QO.loadOA ty35 (by rfl) (by assumption) (by rfl)) ?_)
  refine RS.call rfl (by rfl) ok175 (by rfl) (fun w ho => rluma u q _) ?_
  rintro _ _ ⟨rfl, rfl⟩
  refine RS.q rfl (QO.assign) ?_
  refine RS.nil ?_
  refine thenC_n ?_
  refine CS.seq ?_
  refine CS.region ?_
  refine RS.q rfl (QO.move) ?_
  refine RS.q rfl (QO.move) ?_
  refine RS.q rfl (QO.move) ?_
  first | (refine RS.q rfl (QO.idxArr0 Try.underlying35 ty33 (by rfl) (by rfl) (by rfl) (by omega)) ?_) | (refine RS.q rfl (QO.idxArrn Try.underlying35 ty33 (by rfl) (by rfl) (by rfl) (by omega)) ?_) | (refine RS.q rfl (QO.idxArr Try.underlying35 ty33 (by rfl) (by rfl) (by omega) (by omega)) ?_)
  first | (refine RS.q rfl (QO.load ty33 (by rfl) (by repeat (first | exact List.Mem.head _ | refine List.Mem.tail _ ?_)) (by rfl)) ?_) | (refine RS.q rfl (QO.loadO ty33 (by rfl) (by assumption)) ?_) | (refine RS.q rfl (QO.load ty33 (by rfl) (by repeat (first | exact List.Mem.head _ | refine List.Mem.tail _ ?_)) (by assumption)) ?_)
  refine RS.q rfl (QO.buildA Try.underlying35 ty35 ty33 (by rfl)) ?_
  refine RS.alloc rfl ty35 ?_
  intro g6
  first | refine RS.storeB ty35 (by rfl) (by rfl) (by rfl) (by rfl) (by rfl) (by repeat (first | exact Upd.head | apply Upd.tail)) (by rfl) ?_ | refine RS.storeP ty35 (by rfl) (by rfl) (by rfl) (by rfl) (by rfl) (by repeat (first | exact Upd.head | apply Upd.tail)) (by rfl) ?_
  refine RS.nil ?_
  refine thenC_n ?_
  refine CS.seq ?_
  refine CS.seq ?_
  refine CS.region ?_
  refine RS.q rfl (QO.loadO ty97 (by rfl) hg) ?_
  refine RS.q rfl (QO.lenS Try.underlying97 (by rfl)) ?_
  refine RS.q rfl (QO.move) ?_
  refine RS.nil ?_
  refine thenC_n ?_
  refine CS.block ?_
  refine CS.loop (X := Nat) (8 :: 20 :: 21 :: 22 :: 23 :: 24 :: 25 :: 26 :: 27 :: 28 :: 29 :: 30 :: []) (fun k => [(20, iv (k : Int))]) (fun k => [⟨g6, 35, [flt (falseQ bs (lumaV u q) (q 3) k 0), flt (falseQ bs (lumaV u q) (q 3) k 1), flt (falseQ bs (lumaV u q) (q 3) k 2), flt (falseQ bs (lumaV u q) (q 3) k 3)]⟩, ⟨g4, 35, [flt 0, flt 0, flt 0, flt 0]⟩, ⟨g3, 35, [flt (q 0), flt (q 1), flt (q 2), flt (q 3)]⟩]) (fun k => k ≤ nb) (fun k => nb - k) 0 (Nat.zero_le _) ?_ ?_ ?_
  · exact (by repeat (first | exact kn_nil | refine kn_cons (by rfl) ?_))
  · exact (by repeat (first | exact List.Sublist.refl _ | exact List.nil_sublist _ | refine List.Sublist.cons_cons _ ?_ | refine List.Sublist.cons _ ?_ | exact Sbp.refl | exact Sbp.nil | refine Sbp.cons (by repeat (first | exact Rem.head | apply Rem.tail)) ?_ | exact Sbp.app | refine Sbp.skip ?_))
  · intro k gj4 hz
    refine CS.seq ?_
    refine CS.region ?_
    refine RS.q rfl (QO.lss (by rfl) (by rfl)) ?_
    refine RS.nil ?_
    refine thenC_n ?_
    refine CS.seq ?_
    refine CS.cond (by rfl) (fun hb0 => ?_) (fun hb0 => ?_)
    · have hb0p := of_decide_eq_true hb0
      refine CS.skip ?_
      refine thenC_n ?_
      refine CS.seq ?_
      refine CS.block ?_
      refine CS.seq ?_
      refine CS.region ?_
      obtain ⟨bA, oA, rfl, hcell⟩ := hA (by omega)
      refine RS.q rfl (QO.idx Try.underlying97 ty163 (by rfl) (by rfl) (by omega) (by omega)) ?_
      refine RS.q rfl (QO.loadOA ty163 (vs := [flt (bs.getD (5 * k) 0), flt (bs.getD (5 * k + 1) 0), flt (bs.getD (5 * k + 2) 0), flt (bs.getD (5 * k + 3) 0), flt (bs.getD (5 * k + 4) 0)]) (by rfl) (band_at hcell (by omega)) (by rfl)) ?_
      refine RS.alloc rfl ty163 ?_
      intro g8
      first | refine RS.storeB ty163 (by rfl) (by rfl) (by rfl) (by rfl) (by rfl) (by repeat (first | exact Upd.head | apply Upd.tail)) (by rfl) ?_ | refine RS.storeP ty163 (by rfl) (by rfl) (by rfl) (by rfl) (by rfl) (by repeat (first | exact Upd.head | apply Upd.tail)) (by rfl) ?_
      refine RS.nil ?_
      refine thenC_n ?_
      refine CS.seq ?_
      refine CS.region ?_
      refine RS.q rfl (QO.fieldAddr fo163_0 (by rfl)) ?_
      first | (refine RS.q rfl (QO.load ty33 (by rfl) (by repeat (first | exact List.Mem.head _ | refine List.Mem.tail _ ?_)) (by rfl)) ?_) | (refine RS.q rfl (QO.loadO ty33 (by rfl) (by assumption)) ?_) | (refine RS.q rfl (QO.load ty33 (by rfl) (by repeat (first | exact List.Mem.head _ | refine List.Mem.tail _ ?_)) (by assumption)) ?_)
      refine RS.q rfl (QO.move) ?_
      refine RS.q rfl (QO.fcmp32 (by rfl) (by rfl) (by simp)) ?_
      refine RS.nil ?_
      refine thenC_n ?_
      refine CS.cond (by rfl) (fun hb1 => ?_) (fun hb1 => ?_)
      · refine CS.region ?_
        refine RS.q rfl (QO.fieldAddr fo163_1 (by rfl)) ?_
        first | (refine RS.q rfl (QO.loadB ty35 (by rfl) (by repeat (first | exact List.Mem.head _ | refine List.Mem.tail _ ?_)) (by rfl)) ?_) | (refine RS.q rfl (QO.loadA ty35 (by rfl) (by repeat (first | exact List.Mem.head _ | refine List.Mem.tail _ ?_)) (by rfl) (by rfl)) ?_) | (refine RS.q rfl (QO.loadOA ty35 (by rfl) (by assumption) (by rfl)) ?_)
        first | refine RS.storeB ty35 (by rfl) (by rfl) (by rfl) (by rfl) (by rfl) (by repeat (first | exact Upd.head | apply Upd.tail)) (by rfl) ?_ | refine RS.storeP ty35 (by rfl) (by rfl) (by rfl) (by rfl) (by rfl) (by repeat (first | exact Upd.head | apply Upd.tail)) (by rfl) ?_
        refine RS.nil ?_
        refine blockC_n ?_
        refine thenC_n ?_
        refine CS.region ?_
        first | (refine RS.q rfl (QO.add (by rfl) (by rfl) (by omega) (by omega)) ?_) | (refine RS.q rfl (QO.ibin (by rfl) (by rfl) trivial) ?_)
        refine RS.q rfl (QO.move) ?_
        refine RS.nil ?_
        refine loopQ_n (by intro t ht; repeat (first | with_reducible exact rfl | exact frame_puts ht (frame_mix ht) _ rfl | (refine frame_put rfl ht ?_) | (refine frame_puts ht ?_ _ rfl) | exact frame_mix ht | (refine frame_mix2 rfl ht ?_) | exact rfl)) ?_
        exact ⟨k + 1, by omega, by omega, (by repeat (first | exact kn_nil | refine kn_cons (by rfl) ?_)), (by rw [falseQ_T hb1]; exact (by repeat (first | exact List.Sublist.refl _ | exact List.nil_sublist _ | refine List.Sublist.cons_cons _ ?_ | refine List.Sublist.cons _ ?_ | exact Sbp.refl | exact Sbp.nil | refine Sbp.cons (by repeat (first | exact Rem.head | apply Rem.tail)) ?_ | exact Sbp.app | refine Sbp.skip ?_)))⟩
      · refine CS.skip ?_
        refine blockC_n ?_
        refine thenC_n ?_
        refine CS.region ?_
        first | (refine RS.q rfl (QO.add (by rfl) (by rfl) (by omega) (by omega)) ?_) | (refine RS.q rfl (QO.ibin (by rfl) (by rfl) trivial) ?_)
        refine RS.q rfl (QO.move) ?_
        refine RS.nil ?_
        refine loopQ_n (by intro t ht; repeat (first | with_reducible exact rfl | exact frame_puts ht (frame_mix ht) _ rfl | (refine frame_put rfl ht ?_) | (refine frame_puts ht ?_ _ rfl) | exact frame_mix ht | (refine frame_mix2 rfl ht ?_) | exact rfl)) ?_
        exact ⟨k + 1, by omega, by omega, (by repeat (first | exact kn_nil | refine kn_cons (by rfl) ?_)), (by rw [falseQ_F hb1]; exact (by repeat (first | exact List.Sublist.refl _ | exact List.nil_sublist _ | refine List.Sublist.cons_cons _ ?_ | refine List.Sublist.cons _ ?_ | exact Sbp.refl | exact Sbp.nil | refine Sbp.cons (by repeat (first | exact Rem.head | apply Rem.tail)) ?_ | exact Sbp.app | refine Sbp.skip ?_)))⟩
    · have hb0p := of_decide_eq_false hb0
      refine CS.exit ?_
      refine thenC_x ?_
      refine loopQ_x ?_
      refine blockC_x ?_
      refine thenC_n ?_
      refine CS.seq ?_
      refine CS.region ?_
      first | (refine RS.q rfl (QO.loadB ty35 (by rfl) (by repeat (first | exact List.Mem.head _ | refine List.Mem.tail _ ?_)) (by rfl)) ?_) | (refine RS.q rfl (QO.loadA ty35 (by rfl) (by repeat (first | exact List.Mem.head _ | refine List.Mem.tail _ ?_)) (by rfl) (by rfl)) ?_) | (refine RS.q rfl (QO.loadOA ty35 (by rfl) (by assumption) (by rfl)) ?_)
      first | refine RS.storeB ty35 (by rfl) (by rfl) (by rfl) (by rfl) (by rfl) (by repeat (first | exact Upd.head | apply Upd.tail)) (by rfl) ?_ | refine RS.storeP ty35 (by rfl) (by rfl) (by rfl) (by rfl) (by rfl) (by repeat (first | exact Upd.head | apply Upd.tail)) (by rfl) ?_
      refine RS.nil ?_
      refine thenC_n ?_
      refine CS.ret ?_
      refine retQ.mk (H' := []) (.inr rfl) (RVs.cellA ty35 (by rfl) (by repeat (first | exact List.Mem.head _ | refine List.Mem.tail _ ?_)) (by rfl) RVs.nil) (List.nil_sublist _) ?_
      obtain rfl : k = nb := by omega
      exact ⟨rfl, rfl⟩

set_option maxRecDepth 100000 in
theorem false_ (X Y : Int) (a b : Nat) (A : Option Addr) (n c : Nat) (xs : List Nat) (u : Nat → Nat) (A2 : Option Addr) (nb c2 : Nat) (bs : List Nat) (W : World) (hn : xs.length = n) (hA : FS W A xs) (hN : n = 4 * (a * b)) (hc : n ≤ c) (hX : -1000 ≤ X ∧ X ≤ 1000) (hY : -1000 ≤ Y ∧ Y ≤ 1000) (ha : 1 ≤ a ∧ a ≤ 8) (hb : 1 ≤ b ∧ b ≤ 8) (hfr : frErr X Y a b n = 0) (hbn : bs.length = 5 * nb) (hB : FS W A2 bs) (hbm : nb ≤ maxLen) : Fn_ Try.prog 77 #[.agg #[iv X, iv Y, iv (a : Int), iv (b : Int), .slice A n c], .agg #[flt (u 0), flt (u 1), flt (u 2)], .slice A2 nb c2] W (fun v H => FrR (falE (numsB [u 0, u 1, u 2]) (bandsE bs nb)) X Y a b (madeV (fun x y => falT bs u nb (pixF xs X Y a b x y)) X Y a n) v H) := by
  have hab2 := Nat.mul_le_mul ha.2 hb.2
  refine Fn_.intro Try.func77 rfl rfl (by rfl) ?_
  refine CS.seq ?_
  refine CS.region ?_
  refine RS.box rfl (by rfl) (by rfl) ?_
  intro g3
  refine RS.box rfl (by rfl) (by rfl) ?_
  intro g4
  refine RS.box rfl (by rfl) (by rfl) ?_
  intro g5
  refine RS.alloc rfl ty26 ?_
  intro g6
  refine RS.q rfl (QO.assign) ?_
  refine RS.nil ?_
  refine thenC_n ?_
  refine CS.seq ?_
  refine CS.seq ?_
  refine CS.region ?_
  first | (refine RS.q rfl (QO.loadB ty26 (by rfl) (by repeat (first | exact List.Mem.head _ | refine List.Mem.tail _ ?_)) (by rfl)) ?_) | (refine RS.q rfl (QO.loadA ty26 (by rfl) (by repeat (first | exact List.Mem.head _ | refine List.Mem.tail _ ?_)) (by rfl) (by rfl)) ?_) | (refine RS.q rfl (QO.loadOA ty26 (by rfl) (by assumption) (by rfl)) ?_)
  refine RS.call rfl (by rfl) ok116 (by rfl) (fun w ho => check _ _ _ _ _ _ _ _) ?_
  rintro _ _ ⟨rfl, rfl⟩
  refine RS.q rfl (QO.assign) ?_
  refine RS.nil ?_
  refine thenC_n ?_
  refine CS.seq ?_
  refine CS.region ?_
  refine RS.q rfl (QO.move) ?_
  refine RS.qv rfl (QO.neq (by rfl) (by rfl)) (congrArg Value.bool (show (frErr X Y (a : Int) (b : Int) n != 0) = false from by rw [hfr]; rfl)) ?_
  refine RS.nil ?_
  refine thenC_n ?_
  refine CS.condF (by rfl) rfl ?_
  refine CS.skip ?_
  refine thenC_n ?_
  refine CS.seq ?_
  refine CS.seq ?_
  refine CS.region ?_
  refine RS.q rfl (QO.cutArr Try.underlying96 ty33 (by rfl)) ?_
  refine RS.call rfl (by rfl) ok129 (by rfl) (fun w ho => allNumbers _ 3 3 [u 0, u 1, u 2] _ rfl (FS.blk' (xs := [u 0, u 1, u 2]) ho (by repeat (first | exact List.Mem.head _ | refine List.Mem.tail _ ?_))) (by decide)) ?_
  rintro _ _ ⟨rfl, rfl⟩
  refine RS.q rfl (QO.not (by rfl)) ?_
  refine RS.nil ?_
  refine thenC_n ?_
  refine CS.cond (by rfl) (fun hb0 => ?_) (fun hb0 => ?_)
  · have hb0p := Eq.mp (Bool.not_eq_true' _) hb0
    refine CS.seq ?_
    refine CS.region ?_
    refine RS.q rfl (QO.build ty26 pl26 (by rfl)) ?_
    first | refine RS.storeB ty26 (by rfl) (by rfl) (by rfl) (by rfl) (by rfl) (by repeat (first | exact Upd.head | apply Upd.tail)) (by rfl) ?_ | refine RS.storeP ty26 (by rfl) (by rfl) (by rfl) (by rfl) (by rfl) (by repeat (first | exact Upd.head | apply Upd.tail)) (by rfl) ?_
    refine RS.q rfl (QO.assign) ?_
    refine RS.nil ?_
    refine thenC_n ?_
    refine CS.ret ?_
    refine thenC_r ?_
    refine retQ.mk (H' := []) (.inr rfl) (RVs.cellA ty26 (by rfl) (by repeat (first | exact List.Mem.head _ | refine List.Mem.tail _ ?_)) (by rfl) (RVs.tmp (by rfl) RVs.nil)) (List.nil_sublist _) ?_
    exact FrR.mkE (if_pos hb0p) (by decide)
  · have hb0p := Eq.mp (Bool.not_eq_false' _) hb0
    refine CS.skip ?_
    refine thenC_n ?_
    refine CS.seq ?_
    refine CS.seq ?_
    refine CS.region ?_
    first | (refine RS.q rfl (QO.load ty97 (by rfl) (by repeat (first | exact List.Mem.head _ | refine List.Mem.tail _ ?_)) (by rfl)) ?_) | (refine RS.q rfl (QO.loadO ty97 (by rfl) (by assumption)) ?_) | (refine RS.q rfl (QO.load ty97 (by rfl) (by repeat (first | exact List.Mem.head _ | refine List.Mem.tail _ ?_)) (by assumption)) ?_)
    refine RS.call rfl (by rfl) ok75 (by rfl) (fun w ho => checkBands A2 nb c2 bs _ hbn (hB.own ho) hbm) ?_
    rintro _ _ ⟨rfl, rfl⟩
    refine RS.q rfl (QO.assign) ?_
    refine RS.nil ?_
    refine thenC_n ?_
    refine CS.seq ?_
    refine CS.region ?_
    refine RS.q rfl (QO.move) ?_
    refine RS.q rfl (QO.neq (by rfl) (by rfl)) ?_
    refine RS.nil ?_
    refine thenC_n ?_
    refine CS.cond (by rfl) (fun hb1 => ?_) (fun hb1 => ?_)
    · have hb1p := bne_iff_ne.1 hb1
      refine CS.seq ?_
      refine CS.region ?_
      refine RS.q rfl (QO.build ty26 pl26 (by rfl)) ?_
      refine RS.q rfl (QO.move) ?_
      first | refine RS.storeB ty26 (by rfl) (by rfl) (by rfl) (by rfl) (by rfl) (by repeat (first | exact Upd.head | apply Upd.tail)) (by rfl) ?_ | refine RS.storeP ty26 (by rfl) (by rfl) (by rfl) (by rfl) (by rfl) (by repeat (first | exact Upd.head | apply Upd.tail)) (by rfl) ?_
      refine RS.q rfl (QO.assign) ?_
      refine RS.nil ?_
      refine thenC_n ?_
      refine CS.ret ?_
      refine thenC_r ?_
      refine retQ.mk (H' := []) (.inr rfl) (RVs.cellA ty26 (by rfl) (by repeat (first | exact List.Mem.head _ | refine List.Mem.tail _ ?_)) (by rfl) (RVs.tmp (by rfl) RVs.nil)) (List.nil_sublist _) ?_
      exact FrR.mkE (if_neg (by rw [hb0p]; decide)) hb1p
    · have hb1p := of_bne_false hb1
      refine CS.skip ?_
      refine thenC_n ?_
      refine CS.seq ?_
      refine CS.region ?_
      first | (refine RS.q rfl (QO.loadB ty26 (by rfl) (by repeat (first | exact List.Mem.head _ | refine List.Mem.tail _ ?_)) (by rfl)) ?_) | (refine RS.q rfl (QO.loadA ty26 (by rfl) (by repeat (first | exact List.Mem.head _ | refine List.Mem.tail _ ?_)) (by rfl) (by rfl)) ?_) | (refine RS.q rfl (QO.loadOA ty26 (by rfl) (by assumption) (by rfl)) ?_)
      first | (refine RS.q rfl (QO.loadB ty96 (by rfl) (by repeat (first | exact List.Mem.head _ | refine List.Mem.tail _ ?_)) (by rfl)) ?_) | (refine RS.q rfl (QO.loadA ty96 (by rfl) (by repeat (first | exact List.Mem.head _ | refine List.Mem.tail _ ?_)) (by rfl) (by rfl)) ?_) | (refine RS.q rfl (QO.loadOA ty96 (by rfl) (by assumption) (by rfl)) ?_)
      refine RS.q rfl (QO.makeFunc) ?_
      refine RS.call rfl (by rfl) ok172 (by rfl) (fun w ho => repainted X Y a b A n c xs u 173 #[.pointer (some ⟨g5, 0, none⟩)] (fun _ _ q => falT bs u nb q) _ hn (hA.own ho) hN hc hX hY ha hb (by kernel_rfl) (fun wd Hd hd i j q _ _ => false1 _ _ (lumaV u q) g5 q A2 nb c2 bs wd (hd.old (ho.cell0 (by repeat (first | exact List.Mem.head _ | refine List.Mem.tail _ ?_)) rfl)) hbn ((hB.own ho).own hd) (bandsE_ok (of_bne_false hb1)))) ?_
      rintro _ _ ⟨gr, rfl, rfl⟩
      first | refine RS.storeB ty26 (by rfl) (by rfl) (by rfl) (by rfl) (by rfl) (by repeat (first | exact Upd.head | apply Upd.tail)) (by rfl) ?_ | refine RS.storeP ty26 (by rfl) (by rfl) (by rfl) (by rfl) (by rfl) (by repeat (first | exact Upd.head | apply Upd.tail)) (by rfl) ?_
      refine RS.q rfl (QO.assign) ?_
      refine RS.nil ?_
      refine thenC_n ?_
      refine CS.ret ?_
      refine retQ.mk (H' := [⟨gr, 33, (madeV (fun x y => falT bs u nb (pixF xs X Y a b x y)) X Y a n).map flt⟩]) (.inr rfl) (RVs.cellA ty26 (by rfl) (by repeat (first | exact List.Mem.head _ | refine List.Mem.tail _ ?_)) (by rfl) (RVs.tmp (by rfl) RVs.nil)) (by repeat (first | exact List.Sublist.refl _ | exact List.nil_sublist _ | refine List.Sublist.cons_cons _ ?_ | refine List.Sublist.cons _ ?_ | exact Sbp.refl | exact Sbp.nil | refine Sbp.cons (by repeat (first | exact Rem.head | apply Rem.tail)) ?_ | exact Sbp.app | refine Sbp.skip ?_)) ?_
      exact FrR.mk0 (madeV_len ..) (by unfold maxLen; omega) ((if_neg (by rw [hb0p]; decide)).trans (of_bne_false hb1))

set_option maxRecDepth 100000 in
theorem rfalse (X Y : Int) (a b : Nat) (A : Option Addr) (n c : Nat) (xs : List Nat) (u : Nat → Nat) (A2 : Option Addr) (nb c2 : Nat) (bs : List Nat) (W : World) (hn : xs.length = n) (hA : FS W A xs) (hN : n = 4 * (a * b)) (hc : n ≤ c) (hX : -1000 ≤ X ∧ X ≤ 1000) (hY : -1000 ≤ Y ∧ Y ≤ 1000) (ha : 1 ≤ a ∧ a ≤ 8) (hb : 1 ≤ b ∧ b ≤ 8) (hfr : frErr X Y a b n = 0) (hbn : bs.length = 5 * nb) (hB : FS W A2 bs) (hbm : nb ≤ maxLen) : Fn_ Try.prog 78 #[.agg #[iv X, iv Y, iv (a : Int), iv (b : Int), .slice A n c], .agg #[flt (u 0), flt (u 1), flt (u 2)], .slice A2 nb c2] W (fun v H => FrR (falE (numsB [u 0, u 1, u 2]) (bandsE bs nb)) X Y a b (madeV (fun x y => falT bs u nb (pixF xs X Y a b x y)) X Y a n) v H) := by
  refine Fn_.intro Try.func78 rfl rfl (by rfl) ?_
  refine CS.seq ?_
  refine CS.region ?_
  refine RS.box rfl (by rfl) (by rfl) ?_
  intro g3
  refine RS.box rfl (by rfl) (by rfl) ?_
  intro g4
  refine RS.box rfl (by rfl) (by rfl) ?_
  intro g5
  refine RS.alloc rfl ty26 ?_
  intro g6
  refine RS.q rfl (QO.assign) ?_
  refine RS.nil ?_
  refine thenC_n ?_
  refine CS.seq ?_
  refine CS.seq ?_
  refine CS.draw 9 rfl (by kernel_rfl) (by kernel_rfl) ?_
  refine RT.take (i := 0) rfl (by kernel_rfl) rfl (QO.cutArr Try.underlying96 ty33 (by rfl)) ?_
  first | (refine RT.take (i := 4) rfl (by kernel_rfl) rfl (QO.load ty97 (by rfl) (by repeat (first | exact List.Mem.head _ | refine List.Mem.tail _ ?_)) (by rfl)) ?_) | (refine RT.take (i := 4) rfl (by kernel_rfl) rfl (QO.loadO ty97 (by rfl) (by assumption)) ?_) | (refine RT.take (i := 4) rfl (by kernel_rfl) rfl (QO.load ty97 (by rfl) (by repeat (first | exact List.Mem.head _ | refine List.Mem.tail _ ?_)) (by assumption)) ?_)
  refine RT.one (i := 1) (by kernel_rfl) rfl rfl ?_
  refine RS.call rfl (by rfl) ok127 (by rfl) (fun w ho => numbers _ 3 3 [u 0, u 1, u 2] _ rfl (FS.blk' (xs := [u 0, u 1, u 2]) ho (by repeat (first | exact List.Mem.head _ | refine List.Mem.tail _ ?_))) (by decide)) ?_
  rintro _ _ ⟨rfl, rfl⟩
  refine RS.nil ⟨(by repeat (first | exact List.Sublist.refl _ | exact List.nil_sublist _ | refine List.Sublist.cons_cons _ ?_ | refine List.Sublist.cons _ ?_ | exact Sbp.refl | exact Sbp.nil | refine Sbp.cons (by repeat (first | exact Rem.head | apply Rem.tail)) ?_ | exact Sbp.app | refine Sbp.skip ?_)), ?_⟩
  refine RT.take (i := 2) rfl (by kernel_rfl) rfl (QO.not (by rfl)) ?_
  refine RT.one (i := 3) (by kernel_rfl) rfl rfl ?_
  refine RS.call rfl (by rfl) ok128 (by rfl) (fun w ho => when _ _ _) ?_
  rintro _ _ ⟨rfl, rfl⟩
  refine RS.nil ⟨(by repeat (first | exact List.Sublist.refl _ | exact List.nil_sublist _ | refine List.Sublist.cons_cons _ ?_ | refine List.Sublist.cons _ ?_ | exact Sbp.refl | exact Sbp.nil | refine Sbp.cons (by repeat (first | exact Rem.head | apply Rem.tail)) ?_ | exact Sbp.app | refine Sbp.skip ?_)), ?_⟩
  refine RT.one (i := 5) (by kernel_rfl) rfl rfl ?_
  refine RS.call rfl (by rfl) ok76 (by rfl) (fun w ho => bandsError A2 nb c2 bs _ hbn (hB.own ho) hbm) ?_
  rintro _ _ ⟨rfl, rfl⟩
  refine RS.nil ⟨(by repeat (first | exact List.Sublist.refl _ | exact List.nil_sublist _ | refine List.Sublist.cons_cons _ ?_ | refine List.Sublist.cons _ ?_ | exact Sbp.refl | exact Sbp.nil | refine Sbp.cons (by repeat (first | exact Rem.head | apply Rem.tail)) ?_ | exact Sbp.app | refine Sbp.skip ?_)), ?_⟩
  refine RT.one (i := 6) (by kernel_rfl) rfl rfl ?_
  refine RS.buildSlice rfl Try.underlying183 ty30 (by decide) (by decide) (by rfl) (by rfl) ?_
  intro g15
  refine RS.nil ⟨(by repeat (first | exact List.Sublist.refl _ | exact List.nil_sublist _ | refine List.Sublist.cons_cons _ ?_ | refine List.Sublist.cons _ ?_ | exact Sbp.refl | exact Sbp.nil | refine Sbp.cons (by repeat (first | exact Rem.head | apply Rem.tail)) ?_ | exact Sbp.app | refine Sbp.skip ?_)), ?_⟩
  refine RT.one (i := 7) (by kernel_rfl) rfl rfl ?_
  refine RS.call rfl (by rfl) ok131 (by rfl) (fun w ho => first2 _ _ _ _ (fun j v hj => ho.cell0 (by repeat (first | exact List.Mem.head _ | refine List.Mem.tail _ ?_)) hj)) ?_
  rintro _ _ ⟨rfl, rfl⟩
  refine RS.nil ⟨(by repeat (first | exact List.Sublist.refl _ | exact List.nil_sublist _ | refine List.Sublist.cons_cons _ ?_ | refine List.Sublist.cons _ ?_ | exact Sbp.refl | exact Sbp.nil | refine Sbp.cons (by repeat (first | exact Rem.head | apply Rem.tail)) ?_ | exact Sbp.app | refine Sbp.skip ?_)), ?_⟩
  refine RT.takev (i := 8) rfl (by kernel_rfl) rfl (QO.assign) (congrArg iv (fal_first (numsB [u 0, u 1, u 2]) (bandsE bs nb))) ?_
  refine RT.done (by kernel_rfl) ?_
  refine thenC_n ?_
  refine CS.seq ?_
  refine CS.region ?_
  refine RS.q rfl (QO.move) ?_
  refine RS.q rfl (QO.neq (by rfl) (by rfl)) ?_
  refine RS.nil ?_
  refine thenC_n ?_
  refine CS.cond (by rfl) (fun hb0 => ?_) (fun hb0 => ?_)
  · have hb0p := bne_iff_ne.1 hb0
    refine CS.seq ?_
    refine CS.region ?_
    refine RS.q rfl (QO.build ty26 pl26 (by rfl)) ?_
    refine RS.q rfl (QO.move) ?_
    first | refine RS.storeB ty26 (by rfl) (by rfl) (by rfl) (by rfl) (by rfl) (by repeat (first | exact Upd.head | apply Upd.tail)) (by rfl) ?_ | refine RS.storeP ty26 (by rfl) (by rfl) (by rfl) (by rfl) (by rfl) (by repeat (first | exact Upd.head | apply Upd.tail)) (by rfl) ?_
    refine RS.q rfl (QO.assign) ?_
    refine RS.nil ?_
    refine thenC_n ?_
    refine CS.ret ?_
    refine thenC_r ?_
    refine retQ.mk (H' := []) (.inr rfl) (RVs.cellA ty26 (by rfl) (by repeat (first | exact List.Mem.head _ | refine List.Mem.tail _ ?_)) (by rfl) (RVs.tmp (by rfl) RVs.nil)) (List.nil_sublist _) ?_
    exact FrR.mkE rfl hb0p
  · have hb0p := of_bne_false hb0
    refine CS.skip ?_
    refine thenC_n ?_
    refine CS.seq ?_
    refine CS.region ?_
    have he0 := of_bne_false hb0
    have hnb : nb ≤ 32 := by
      unfold falE at he0
      split at he0
      · cases he0
      · exact bandsE_ok he0
    first | (refine RS.q rfl (QO.loadB ty26 (by rfl) (by repeat (first | exact List.Mem.head _ | refine List.Mem.tail _ ?_)) (by rfl)) ?_) | (refine RS.q rfl (QO.loadA ty26 (by rfl) (by repeat (first | exact List.Mem.head _ | refine List.Mem.tail _ ?_)) (by rfl) (by rfl)) ?_) | (refine RS.q rfl (QO.loadOA ty26 (by rfl) (by assumption) (by rfl)) ?_)
    refine RS.q rfl (QO.makeFunc) ?_
    refine RS.call rfl (by rfl) ok120 (by rfl) (fun w ho => reach X Y a b A n c xs 174 #[.pointer (some ⟨g4, 0, none⟩), .pointer (some ⟨g5, 0, none⟩)] (fun c q => falT bs u nb q c) _ hn (hA.own ho) hN hc (by omega) (by omega) (by omega) (by omega) (by kernel_rfl) (fun wd Hd hd q => rfalse1 g4 g5 u q A2 nb c2 bs wd (fun j v hj => hd.old (ho.cellAt (by repeat (first | exact List.Mem.head _ | refine List.Mem.tail _ ?_)) hj)) (hd.old (ho.cell0 (by repeat (first | exact List.Mem.head _ | refine List.Mem.tail _ ?_)) rfl)) hbn ((hB.own ho).own hd) hnb)) ?_
    intro v23 H23 h23
    rw [hN, ← madeV_each xs X Y a b, ← hN] at h23
    obtain ⟨gm, cm, jm, rfl, rfl, hcm, hcx⟩ := h23
    first | refine RS.storeB ty26 (by rfl) (by rfl) (by rfl) (by rfl) (by rfl) (by repeat (first | exact Upd.head | apply Upd.tail)) (by rfl) ?_ | refine RS.storeP ty26 (by rfl) (by rfl) (by rfl) (by rfl) (by rfl) (by repeat (first | exact Upd.head | apply Upd.tail)) (by rfl) ?_
    refine RS.q rfl (QO.assign) ?_
    refine RS.nil ?_
    refine thenC_n ?_
    refine CS.ret ?_
    refine retQ.mk (H' := [⟨gm, 33, (madeV (fun x y => falT bs u nb (pixF xs X Y a b x y)) X Y a n).map flt ++ jm⟩]) (.inr rfl) (RVs.cellA ty26 (by rfl) (by repeat (first | exact List.Mem.head _ | refine List.Mem.tail _ ?_)) (by rfl) (RVs.tmp (by rfl) RVs.nil)) (by repeat (first | exact List.Sublist.refl _ | exact List.nil_sublist _ | refine List.Sublist.cons_cons _ ?_ | refine List.Sublist.cons _ ?_ | exact Sbp.refl | exact Sbp.nil | refine Sbp.cons (by repeat (first | exact Rem.head | apply Rem.tail)) ?_ | exact Sbp.app | refine Sbp.skip ?_)) ?_
    exact .inl ⟨he0, gm, cm, jm, rfl, rfl, hcm, hcx⟩

set_option maxRecDepth 100000 in
theorem conv_ (n : Int) (W : World) : Fn_ Try.prog 167 #[iv n] W (fun v H => v = flt (cvF n) ∧ H = []) := by
  refine Fn_.intro Try.func167 rfl rfl (by rfl) ?_
  refine CS.seq ?_
  refine CS.region ?_
  refine RS.q rfl (QO.assign) ?_
  refine RS.nil ?_
  refine thenC_n ?_
  refine CS.seq ?_
  refine CS.region ?_
  refine RS.q rfl (QO.move) ?_
  refine RS.q rfl (QO.conv_i64_f32 Try.underlying3 Try.underlying33 (by rfl)) ?_
  refine RS.q rfl (QO.assign) ?_
  refine RS.nil ?_
  refine thenC_n ?_
  refine CS.ret ?_
  refine retQ.mk (H' := []) (.inr rfl) (RVs.tmp (by rfl) RVs.nil) (List.nil_sublist _) ?_
  exact ⟨rfl, rfl⟩

set_option maxRecDepth 100000 in
theorem firstN (l : List Int) (g : Nat) (W : World) (hcell : ∀ j v, (l.map iv)[j]? = some v → W.cell? ⟨g, j, none⟩ = some v) (hm : l.length ≤ maxLen) : Fn_ Try.prog 131 #[.slice (some ⟨g, 0, none⟩) l.length l.length] W (fun v H => v = iv (firstE (fun i => l.getD i 0) l.length) ∧ H = []) := by
  unfold maxLen at hm
  refine Fn_.intro Try.func131 rfl rfl (by rfl) ?_
  refine CS.seq ?_
  refine CS.region ?_
  refine RS.q rfl (QO.assign) ?_
  refine RS.nil ?_
  refine thenC_n ?_
  refine CS.seq ?_
  refine CS.seq ?_
  refine CS.region ?_
  refine RS.q rfl (QO.move) ?_
  refine RS.q rfl (QO.lenS Try.underlying183 (by rfl)) ?_
  refine RS.q rfl (QO.move) ?_
  refine RS.nil ?_
  refine thenC_n ?_
  refine CS.block ?_
  refine CS.loop (X := Nat) [2, 4, 7, 8, 9, 10, 11, 12, 13, 14] (fun k => [(7, iv (k : Int))]) (fun k => []) (fun k => k ≤ l.length ∧ firstE (fun i => l.getD i 0) k = 0) (fun k => l.length - k) 0 ⟨Nat.zero_le _, rfl⟩ ?_ ?_ ?_
  · exact (by repeat (first | exact kn_nil | refine kn_cons (by rfl) ?_))
  · exact (by repeat (first | exact List.Sublist.refl _ | exact List.nil_sublist _ | refine List.Sublist.cons_cons _ ?_ | refine List.Sublist.cons _ ?_ | exact Sbp.refl | exact Sbp.nil | refine Sbp.cons (by repeat (first | exact Rem.head | apply Rem.tail)) ?_ | exact Sbp.app | refine Sbp.skip ?_))
  · intro k gj2 hz
    obtain ⟨hk, hz⟩ := hz
    refine CS.seq ?_
    refine CS.region ?_
    refine RS.q rfl (QO.lss (by rfl) (by rfl)) ?_
    refine RS.nil ?_
    refine thenC_n ?_
    refine CS.seq ?_
    refine CS.cond (by rfl) (fun hb0 => ?_) (fun hb0 => ?_)
    · have hb0p := of_decide_eq_true hb0
      refine CS.skip ?_
      refine thenC_n ?_
      refine CS.seq ?_
      refine CS.block ?_
      refine CS.seq ?_
      refine CS.region ?_
      first | (refine RS.q rfl (QO.idx0 Try.underlying183 ty30 (by rfl) (by rfl) (by rfl) (by omega)) ?_) | (refine RS.q rfl (QO.idxn Try.underlying183 ty30 (by rfl) (by rfl) (by rfl) (by omega)) ?_) | (refine RS.q rfl (QO.idx1 Try.underlying183 ty30 (by rfl) (by rfl) (by omega) (by omega)) ?_)
      refine RS.q rfl (QO.loadO ty30 (v := iv (l.getD k 0)) (by rfl) (hcell _ _ (by rw [List.getElem?_map, List.getElem?_eq_getElem (show k < l.length by omega)]; simp [List.getD, show k < l.length by omega]))) ?_
      refine RS.q rfl (QO.assign) ?_
      refine RS.nil ?_
      refine thenC_n ?_
      refine CS.seq ?_
      refine CS.region ?_
      refine RS.q rfl (QO.move) ?_
      refine RS.q rfl (QO.neq (by rfl) (by rfl)) ?_
      refine RS.nil ?_
      refine thenC_n ?_
      refine CS.cond (by rfl) (fun hb1 => ?_) (fun hb1 => ?_)
      · have hb1p := bne_iff_ne.1 hb1
        refine CS.seq ?_
        refine CS.region ?_
        refine RS.q rfl (QO.move) ?_
        refine RS.q rfl (QO.assign) ?_
        refine RS.nil ?_
        refine thenC_n ?_
        refine CS.ret ?_
        refine blockC_r ?_
        refine thenC_r ?_
        refine loopQ_r ?_
        refine blockC_r ?_
        refine thenC_r ?_
        refine retQ.mk (H' := []) (.inr rfl) (RVs.tmp (by rfl) RVs.nil) (List.nil_sublist _) ?_
        exact ⟨congrArg iv (firstE_at hz hb1p (show k < l.length by omega)).symm, rfl⟩
      · have hb1p := of_bne_false hb1
        refine CS.skip ?_
        refine blockC_n ?_
        refine thenC_n ?_
        refine CS.region ?_
        first | (refine RS.q rfl (QO.add (by rfl) (by rfl) (by omega) (by omega)) ?_) | (refine RS.q rfl (QO.ibin (by rfl) (by rfl) trivial) ?_)
        refine RS.q rfl (QO.move) ?_
        refine RS.nil ?_
        refine loopQ_n (by intro t ht; repeat (first | with_reducible exact rfl | exact frame_puts ht (frame_mix ht) _ rfl | (refine frame_put rfl ht ?_) | (refine frame_puts ht ?_ _ rfl) | exact frame_mix ht | (refine frame_mix2 rfl ht ?_) | exact rfl)) ?_
        exact ⟨k + 1, ⟨by omega, firstE_go hz (of_bne_false hb1)⟩, by omega, (by repeat (first | exact kn_nil | refine kn_cons (by rfl) ?_)), (by repeat (first | exact List.Sublist.refl _ | exact List.nil_sublist _ | refine List.Sublist.cons_cons _ ?_ | refine List.Sublist.cons _ ?_ | exact Sbp.refl | exact Sbp.nil | refine Sbp.cons (by repeat (first | exact Rem.head | apply Rem.tail)) ?_ | exact Sbp.app | refine Sbp.skip ?_))⟩
    · have hb0p := of_decide_eq_false hb0
      refine CS.exit ?_
      refine thenC_x ?_
      refine loopQ_x ?_
      refine blockC_x ?_
      refine thenC_n ?_
      refine CS.seq ?_
      refine CS.region ?_
      refine RS.q rfl (QO.assign) ?_
      refine RS.nil ?_
      refine thenC_n ?_
      refine CS.ret ?_
      refine retQ.mk (H' := []) (.inr rfl) (RVs.tmp (by rfl) RVs.nil) (List.nil_sublist _) ?_
      obtain rfl : k = l.length := by omega
      exact ⟨congrArg iv hz.symm, rfl⟩

set_option maxRecDepth 100000 in
theorem zebra1 (x y : Int) (l lv g6 g7 s : Nat) (q : Nat → Nat) (W : World) (hg6 : W.cell? ⟨g6, 0, none⟩ = some (flt lv)) (hg7 : W.cell? ⟨g7, 0, none⟩ = some (iv (s : Int))) (hx : -100000 ≤ x ∧ x ≤ 100000) (hy : -100000 ≤ y ∧ y ≤ 100000) (hs : 1 ≤ s) (hs2 : s ≤ 64) : Fn_ Try.prog 176 #[iv x, iv y, flt l, pxv q, .pointer (some ⟨g6, 0, none⟩), .pointer (some ⟨g7, 0, none⟩)] W (fun v H => v = pxv (zebQ x y s lv l q) ∧ H = []) := by
  refine Fn_.intro Try.func176 rfl rfl (by rfl) ?_
  refine CS.seq ?_
  refine CS.region ?_
  refine RS.box rfl (by rfl) (by rfl) ?_
  intro g9
  refine RS.alloc rfl ty35 ?_
  intro g10
  refine RS.nil ?_
  refine thenC_n ?_
  refine CS.seq ?_
  refine CS.seq ?_
  refine CS.region ?_
  refine RS.q rfl (QO.move) ?_
  refine RS.q rfl (QO.loadO ty33 (by rfl) hg6) ?_
  refine RS.q rfl (QO.fcmp32 (by rfl) (by rfl) (by simp)) ?_
  refine RS.q rfl (QO.not (by rfl)) ?_
  refine RS.nil ?_
  refine thenC_n ?_
  refine CS.cond (by rfl) (fun hb0 => ?_) (fun hb0 => ?_)
  · have hb0p := Eq.mp (Bool.not_eq_true' _) hb0
    refine CS.seq ?_
    refine CS.region ?_
    first | (refine RS.q rfl (QO.loadB ty35 (by rfl) (by repeat (first | exact List.Mem.head _ | refine List.Mem.tail _ ?_)) (by rfl)) ?_) | (refine RS.q rfl (QO.loadA ty35 (by rfl) (by repeat (first | exact List.Mem.head _ | refine List.Mem.tail _ ?_)) (by rfl) (by rfl)) ?_) | (refine RS.q rfl (QO.loadOA ty35 (by rfl) (by assumption) (by rfl)) ?_)
    first | refine RS.storeB ty35 (by rfl) (by rfl) (by rfl) (by rfl) (by rfl) (by repeat (first | exact Upd.head | apply Upd.tail)) (by rfl) ?_ | refine RS.storeP ty35 (by rfl) (by rfl) (by rfl) (by rfl) (by rfl) (by repeat (first | exact Upd.head | apply Upd.tail)) (by rfl) ?_
    refine RS.nil ?_
    refine thenC_n ?_
    refine CS.ret ?_
    refine thenC_r ?_
    refine retQ.mk (H' := []) (.inr rfl) (RVs.cellA ty35 (by rfl) (by repeat (first | exact List.Mem.head _ | refine List.Mem.tail _ ?_)) (by rfl) RVs.nil) (List.nil_sublist _) ?_
    exact ⟨congrArg pxv (zebQ_F hb0p).symm, rfl⟩
  · have hb0p := Eq.mp (Bool.not_eq_false' _) hb0
    refine CS.skip ?_
    refine thenC_n ?_
    refine CS.seq ?_
    refine CS.region ?_
    have htb := tdiv_bd (a := x + y) (s := s) (by omega)
    refine RS.q rfl (QO.move) ?_
    refine RS.q rfl (QO.move) ?_
    first | (refine RS.q rfl (QO.add (by rfl) (by rfl) (by omega) (by omega)) ?_) | (refine RS.q rfl (QO.ibin (by rfl) (by rfl) trivial) ?_)
    refine RS.q rfl (QO.loadO ty3 (by rfl) hg7) ?_
    refine RS.q rfl (QO.quo (by rfl) (by rfl) (by omega) (by omega) (by omega)) ?_
    refine RS.q rfl (QO.assign) ?_
    refine RS.nil ?_
    refine thenC_n ?_
    refine CS.cut (X := Unit) [11, 22, 23, 24, 25, 26, 27, 28, 29] (fun z => [(11, iv ((x + y) / (s : Int)))]) (fun z => [⟨g10, 35, [flt 0, flt 0, flt 0, flt 0]⟩, ⟨g9, 35, [flt (q 0), flt (q 1), flt (q 2), flt (q 3)]⟩]) (fun z => True) ?_ ?_
    · refine CS.seq ?_
      refine CS.region ?_
      refine RS.q rfl (QO.move) ?_
      refine RS.q rfl (QO.move) ?_
      first | (refine RS.q rfl (QO.add (by rfl) (by rfl) (by omega) (by omega)) ?_) | (refine RS.q rfl (QO.ibin (by rfl) (by rfl) trivial) ?_)
      refine RS.q rfl (QO.loadO ty3 (by rfl) hg7) ?_
      refine RS.q rfl (QO.rem (by rfl) (by rfl) (by omega)) ?_
      refine RS.q rfl (QO.lss (by rfl) (by rfl)) ?_
      refine RS.nil ?_
      refine thenC_n ?_
      refine CS.cond (by rfl) (fun hb1 => ?_) (fun hb1 => ?_)
      · have hb1p := of_decide_eq_true hb1
        refine CS.region ?_
        refine RS.q rfl (QO.move) ?_
        first | (refine RS.q rfl (QO.sub (by rfl) (by rfl) (by omega) (by omega)) ?_) | (refine RS.q rfl (QO.ibin (by rfl) (by rfl) trivial) ?_)
        refine RS.q rfl (QO.assign) ?_
        refine RS.nil ?_
        refine cutQ_n (by intro t ht; repeat (first | with_reducible exact rfl | exact frame_puts ht (frame_mix ht) _ rfl | (refine frame_put rfl ht ?_) | (refine frame_puts ht ?_ _ rfl) | exact frame_mix ht | (refine frame_mix2 rfl ht ?_) | exact rfl)) ?_
        exact ⟨(), trivial, kn_cons (congrArg iv (fdiv_neg hs hb1p).1) kn_nil, (by repeat (first | exact List.Sublist.refl _ | exact List.nil_sublist _ | refine List.Sublist.cons_cons _ ?_ | refine List.Sublist.cons _ ?_ | exact Sbp.refl | exact Sbp.nil | refine Sbp.cons (by repeat (first | exact Rem.head | apply Rem.tail)) ?_ | exact Sbp.app | refine Sbp.skip ?_))⟩
      · have hb1p := of_decide_eq_false hb1
        refine CS.skip ?_
        refine cutQ_n (by intro t ht; repeat (first | with_reducible exact rfl | exact frame_puts ht (frame_mix ht) _ rfl | (refine frame_put rfl ht ?_) | (refine frame_puts ht ?_ _ rfl) | exact frame_mix ht | (refine frame_mix2 rfl ht ?_) | exact rfl)) ?_
        exact ⟨(), trivial, kn_cons (congrArg iv (fdiv_pos hs hb1p).1) kn_nil, (by repeat (first | exact List.Sublist.refl _ | exact List.nil_sublist _ | refine List.Sublist.cons_cons _ ?_ | refine List.Sublist.cons _ ?_ | exact Sbp.refl | exact Sbp.nil | refine Sbp.cons (by repeat (first | exact Rem.head | apply Rem.tail)) ?_ | exact Sbp.app | refine Sbp.skip ?_))⟩
    · intro z gj hz
      refine CS.seq ?_
      refine CS.seq ?_
      refine CS.region ?_
      refine RS.q rfl (QO.move) ?_
      refine RS.q rfl (QO.rem (by rfl) (by rfl) (by omega)) ?_
      refine RS.q rfl (QO.eql (by rfl) (by rfl)) ?_
      refine RS.nil ?_
      refine thenC_n ?_
      refine CS.cond (by rfl) (fun hb2 => ?_) (fun hb2 => ?_)
      · have hb2p := eq_of_beq hb2
        refine CS.seq ?_
        refine CS.region ?_
        first | (refine RS.q rfl (QO.idxArr0 Try.underlying35 ty33 (by rfl) (by rfl) (by rfl) (by omega)) ?_) | (refine RS.q rfl (QO.idxArrn Try.underlying35 ty33 (by rfl) (by rfl) (by rfl) (by omega)) ?_) | (refine RS.q rfl (QO.idxArr Try.underlying35 ty33 (by rfl) (by rfl) (by omega) (by omega)) ?_)
        first | (refine RS.q rfl (QO.load ty33 (by rfl) (by repeat (first | exact List.Mem.head _ | refine List.Mem.tail _ ?_)) (by rfl)) ?_) | (refine RS.q rfl (QO.loadO ty33 (by rfl) (by assumption)) ?_) | (refine RS.q rfl (QO.load ty33 (by rfl) (by repeat (first | exact List.Mem.head _ | refine List.Mem.tail _ ?_)) (by assumption)) ?_)
        refine RS.q rfl (QO.buildA Try.underlying35 ty35 ty33 (by rfl)) ?_
        first | refine RS.storeB ty35 (by rfl) (by rfl) (by rfl) (by rfl) (by rfl) (by repeat (first | exact Upd.head | apply Upd.tail)) (by rfl) ?_ | refine RS.storeP ty35 (by rfl) (by rfl) (by rfl) (by rfl) (by rfl) (by repeat (first | exact Upd.head | apply Upd.tail)) (by rfl) ?_
        refine RS.nil ?_
        refine thenC_n ?_
        refine CS.ret ?_
        refine thenC_r ?_
        refine retQ.mk (H' := []) (.inr rfl) (RVs.cellA ty35 (by rfl) (by repeat (first | exact List.Mem.head _ | refine List.Mem.tail _ ?_)) (by rfl) RVs.nil) (List.nil_sublist _) ?_
        exact ⟨congrArg pxv (zebQ_0 hb0p ((tmod2 _).1 hb2p)).symm, rfl⟩
      · have hb2p := ne_of_beq_false hb2
        refine CS.skip ?_
        refine thenC_n ?_
        refine CS.seq ?_
        refine CS.region ?_
        first | (refine RS.q rfl (QO.idxArr0 Try.underlying35 ty33 (by rfl) (by rfl) (by rfl) (by omega)) ?_) | (refine RS.q rfl (QO.idxArrn Try.underlying35 ty33 (by rfl) (by rfl) (by rfl) (by omega)) ?_) | (refine RS.q rfl (QO.idxArr Try.underlying35 ty33 (by rfl) (by rfl) (by omega) (by omega)) ?_)
        first | (refine RS.q rfl (QO.load ty33 (by rfl) (by repeat (first | exact List.Mem.head _ | refine List.Mem.tail _ ?_)) (by rfl)) ?_) | (refine RS.q rfl (QO.loadO ty33 (by rfl) (by assumption)) ?_) | (refine RS.q rfl (QO.load ty33 (by rfl) (by repeat (first | exact List.Mem.head _ | refine List.Mem.tail _ ?_)) (by assumption)) ?_)
        refine RS.q rfl (QO.buildA Try.underlying35 ty35 ty33 (by rfl)) ?_
        first | refine RS.storeB ty35 (by rfl) (by rfl) (by rfl) (by rfl) (by rfl) (by repeat (first | exact Upd.head | apply Upd.tail)) (by rfl) ?_ | refine RS.storeP ty35 (by rfl) (by rfl) (by rfl) (by rfl) (by rfl) (by repeat (first | exact Upd.head | apply Upd.tail)) (by rfl) ?_
        refine RS.nil ?_
        refine thenC_n ?_
        refine CS.ret ?_
        refine retQ.mk (H' := []) (.inr rfl) (RVs.cellA ty35 (by rfl) (by repeat (first | exact List.Mem.head _ | refine List.Mem.tail _ ?_)) (by rfl) RVs.nil) (List.nil_sublist _) ?_
        exact ⟨congrArg pxv (zebQ_1 hb0p (fun h => hb2p ((tmod2 _).2 h))).symm, rfl⟩

set_option maxRecDepth 100000 in
theorem rzebra1 (x y : Int) (lv g2 g3 g4 g5 s : Nat) (X Y : Int) (a b : Nat) (A : Option Addr) (n c : Nat) (xs : List Nat) (u : Nat → Nat) (W : World) (hg2 : ∀ j v, [iv X, iv Y, iv (a : Int), iv (b : Int), .slice A n c][j]? = some v → W.cell? ((⟨g2, 0, none⟩ : Addr).add j) = some v) (hg3 : ∀ j v, [flt (u 0), flt (u 1), flt (u 2)][j]? = some v → W.cell? ((⟨g3, 0, none⟩ : Addr).add j) = some v) (hg4 : W.cell? ⟨g4, 0, none⟩ = some (flt lv)) (hg5 : W.cell? ⟨g5, 0, none⟩ = some (iv (s : Int))) (hx : -100000 ≤ x ∧ x ≤ 100000) (hy : -100000 ≤ y ∧ y ≤ 100000) (hs : 1 ≤ s) (hs2 : s ≤ 64) (hn : xs.length = n) (hA : FS W A xs) (hN : n = 4 * (a * b)) (hc : n ≤ c) (hX : -1000 ≤ X ∧ X ≤ 1000) (hY : -1000 ≤ Y ∧ Y ≤ 1000) (ha : 1 ≤ a ∧ a ≤ 8) (hb : 1 ≤ b ∧ b ≤ 8) : Fn_ Try.prog 177 #[iv x, iv y, .pointer (some ⟨g2, 0, none⟩), .pointer (some ⟨g3, 0, none⟩), .pointer (some ⟨g4, 0, none⟩), .pointer (some ⟨g5, 0, none⟩)] W (fun v H => v = pxv (zebQ x y s lv (lumaV u (pixF xs X Y a b x y)) (pixF xs X Y a b x y)) ∧ H = []) := by
  refine Fn_.intro Try.func177 rfl rfl (by rfl) ?_
  refine CS.seq ?_
  refine CS.region ?_
  refine RS.alloc rfl ty35 ?_
  intro g8
  refine RS.nil ?_
  refine thenC_n ?_
  refine CS.seq ?_
  refine CS.region ?_
  refine RS.q rfl (QO.loadOA ty26 (vs := [iv X, iv Y, iv (a : Int), iv (b : Int), .slice A n c]) (by rfl) hg2 (by rfl)) ?_
  refine RS.q rfl (QO.move) ?_
  refine RS.q rfl (QO.move) ?_
  refine RS.call rfl (by rfl) ok23 (by rfl) (fun w ho => pixelAt X Y a b A n c xs x y _ hn (hA.own ho) hN hc (by omega) (by omega) (by omega) (by omega)) ?_
  rintro _ _ ⟨rfl, rfl⟩
  refine RS.alloc rfl ty35 ?_
  intro g9
  first | refine RS.storeB ty35 (by rfl) (by rfl) (by rfl) (by rfl) (by rfl) (by repeat (first | exact Upd.head | apply Upd.tail)) (by rfl) ?_ | refine RS.storeP ty35 (by rfl) (by rfl) (by rfl) (by rfl) (by rfl) (by repeat (first | exact Upd.head | apply Upd.tail)) (by rfl) ?_
  refine RS.nil ?_
  refine thenC_n ?_
  refine CS.seq ?_
  refine CS.seq ?_
  refine CS.draw 6 rfl (by kernel_rfl) (by kernel_rfl) ?_
  refine RT.take (i := 0) rfl (by kernel_rfl) rfl (QO.loadOA ty96 (vs := [flt (u 0), flt (u 1), flt (u 2)]) (by rfl) hg3 (by rfl)) ?_
  first | (refine RT.take (i := 1) rfl (by kernel_rfl) rfl (QO.loadB ty35 (by rfl) (by repeat (first | exact List.Mem.head _ | refine List.Mem.tail _ ?_)) (by rfl)) ?_) | (refine RT.take (i := 1) rfl (by kernel_rfl) rfl (QO.loadA ty35 (by rfl) (by repeat (first | exact List.Mem.head _ | refine List.Mem.tail _ ?_)) (by rfl) (by rfl)) ?_) | (refine RT.take (i := 1) rfl (by kernel_rfl) rfl (QO.loadOA ty35 (by rfl) (by assumption) (by rfl)) ?_)
  refine RT.take (i := 3) rfl (by kernel_rfl) rfl (QO.loadO ty33 (by rfl) hg4) ?_
  refine RT.one (i := 2) (by kernel_rfl) rfl rfl ?_
  refine RS.call rfl (by rfl) ok175 (by rfl) (fun w ho => rluma u (pixF xs X Y a b x y) _) ?_
  rintro _ _ ⟨rfl, rfl⟩
  refine RS.nil ⟨(by repeat (first | exact List.Sublist.refl _ | exact List.nil_sublist _ | refine List.Sublist.cons_cons _ ?_ | refine List.Sublist.cons _ ?_ | exact Sbp.refl | exact Sbp.nil | refine Sbp.cons (by repeat (first | exact Rem.head | apply Rem.tail)) ?_ | exact Sbp.app | refine Sbp.skip ?_)), ?_⟩
  refine RT.take (i := 4) rfl (by kernel_rfl) rfl (QO.fcmp32 (by rfl) (by rfl) (by simp)) ?_
  refine RT.take (i := 5) rfl (by kernel_rfl) rfl (QO.not (by rfl)) ?_
  refine RT.done (by kernel_rfl) ?_
  refine thenC_n ?_
  refine CS.cond (by rfl) (fun hb0 => ?_) (fun hb0 => ?_)
  · have hb0p := Eq.mp (Bool.not_eq_true' _) hb0
    refine CS.seq ?_
    refine CS.region ?_
    first | (refine RS.q rfl (QO.loadB ty35 (by rfl) (by repeat (first | exact List.Mem.head _ | refine List.Mem.tail _ ?_)) (by rfl)) ?_) | (refine RS.q rfl (QO.loadA ty35 (by rfl) (by repeat (first | exact List.Mem.head _ | refine List.Mem.tail _ ?_)) (by rfl) (by rfl)) ?_) | (refine RS.q rfl (QO.loadOA ty35 (by rfl) (by assumption) (by rfl)) ?_)
    first | refine RS.storeB ty35 (by rfl) (by rfl) (by rfl) (by rfl) (by rfl) (by repeat (first | exact Upd.head | apply Upd.tail)) (by rfl) ?_ | refine RS.storeP ty35 (by rfl) (by rfl) (by rfl) (by rfl) (by rfl) (by repeat (first | exact Upd.head | apply Upd.tail)) (by rfl) ?_
    refine RS.nil ?_
    refine thenC_n ?_
    refine CS.ret ?_
    refine thenC_r ?_
    refine retQ.mk (H' := []) (.inr rfl) (RVs.cellA ty35 (by rfl) (by repeat (first | exact List.Mem.head _ | refine List.Mem.tail _ ?_)) (by rfl) RVs.nil) (List.nil_sublist _) ?_
    exact ⟨congrArg pxv (zebQ_F hb0p).symm, rfl⟩
  · have hb0p := Eq.mp (Bool.not_eq_false' _) hb0
    refine CS.skip ?_
    refine thenC_n ?_
    refine CS.seq ?_
    refine CS.region ?_
    have hdb : -2000000 ≤ (x + y) / (s : Int) ∧ (x + y) / (s : Int) ≤ 2000000 := div_bd hs (by omega)
    have hmb : 0 ≤ (x + y) / (s : Int) % ((2 : Nat) : Int) ∧ (x + y) / (s : Int) % ((2 : Nat) : Int) < 2 := by omega
    refine RS.q rfl (QO.move) ?_
    refine RS.q rfl (QO.move) ?_
    first | (refine RS.q rfl (QO.add (by rfl) (by rfl) (by omega) (by omega)) ?_) | (refine RS.q rfl (QO.ibin (by rfl) (by rfl) trivial) ?_)
    refine RS.q rfl (QO.loadO ty3 (by rfl) hg5) ?_
    refine RS.call rfl (by rfl) ok126 (by rfl) (fun w ho => quotient (x + y) s _ hs (by omega) (by omega)) ?_
    rintro _ _ ⟨rfl, rfl⟩
    refine RS.q rfl (QO.move) ?_
    refine RS.q rfl (QO.extract (by rfl) (by rfl)) ?_
    refine RS.q rfl (QO.extract (by rfl) (by rfl)) ?_
    refine RS.q rfl (QO.assign) ?_
    refine RS.q rfl (QO.assign) ?_
    refine RS.nil ?_
    refine thenC_n ?_
    refine CS.seq ?_
    refine CS.region ?_
    refine RS.q rfl (QO.move) ?_
    refine RS.call rfl (by rfl) ok126 (by rfl) (fun w ho => quotient ((x + y) / (s : Int)) 2 _ (by omega) (by omega) (by omega)) ?_
    rintro _ _ ⟨rfl, rfl⟩
    refine RS.q rfl (QO.move) ?_
    refine RS.q rfl (QO.extract (by rfl) (by rfl)) ?_
    refine RS.q rfl (QO.extract (by rfl) (by rfl)) ?_
    refine RS.q rfl (QO.assign) ?_
    refine RS.q rfl (QO.assign) ?_
    refine RS.nil ?_
    refine thenC_n ?_
    refine CS.seq ?_
    refine CS.region ?_
    refine RS.q rfl (QO.move) ?_
    first | (refine RS.q rfl (QO.sub (by rfl) (by rfl) (by omega) (by omega)) ?_) | (refine RS.q rfl (QO.ibin (by rfl) (by rfl) trivial) ?_)
    refine RS.call rfl (by rfl) ok167 (by rfl) (fun w ho => conv_ _ _) ?_
    rintro _ _ ⟨rfl, rfl⟩
    refine RS.q rfl (QO.assign) ?_
    refine RS.nil ?_
    refine thenC_n ?_
    refine CS.seq ?_
    refine CS.region ?_
    refine RS.q rfl (QO.move) ?_
    refine RS.q rfl (QO.move) ?_
    refine RS.q rfl (QO.move) ?_
    first | (refine RS.q rfl (QO.idxArr0 Try.underlying35 ty33 (by rfl) (by rfl) (by rfl) (by omega)) ?_) | (refine RS.q rfl (QO.idxArrn Try.underlying35 ty33 (by rfl) (by rfl) (by rfl) (by omega)) ?_) | (refine RS.q rfl (QO.idxArr Try.underlying35 ty33 (by rfl) (by rfl) (by omega) (by omega)) ?_)
    first | (refine RS.q rfl (QO.load ty33 (by rfl) (by repeat (first | exact List.Mem.head _ | refine List.Mem.tail _ ?_)) (by rfl)) ?_) | (refine RS.q rfl (QO.loadO ty33 (by rfl) (by assumption)) ?_) | (refine RS.q rfl (QO.load ty33 (by rfl) (by repeat (first | exact List.Mem.head _ | refine List.Mem.tail _ ?_)) (by assumption)) ?_)
    refine RS.q rfl (QO.buildA Try.underlying35 ty35 ty33 (by rfl)) ?_
    first | refine RS.storeB ty35 (by rfl) (by rfl) (by rfl) (by rfl) (by rfl) (by repeat (first | exact Upd.head | apply Upd.tail)) (by rfl) ?_ | refine RS.storeP ty35 (by rfl) (by rfl) (by rfl) (by rfl) (by rfl) (by repeat (first | exact Upd.head | apply Upd.tail)) (by rfl) ?_
    refine RS.nil ?_
    refine thenC_n ?_
    refine CS.ret ?_
    refine retQ.mk (H' := []) (.inr rfl) (RVs.cellA ty35 (by rfl) (by repeat (first | exact List.Mem.head _ | refine List.Mem.tail _ ?_)) (by rfl) RVs.nil) (List.nil_sublist _) ?_
    exact ⟨congrArg pxv (zeb_ref (x := x) (y := y) (wd := (s : Int)) (q := pixF xs X Y a b x y) hb0p), rfl⟩

set_option maxRecDepth 100000 in
theorem zebra_ (X Y : Int) (a b : Nat) (A : Option Addr) (n c : Nat) (xs : List Nat) (u : Nat → Nat) (lv : Nat) (wd : Int) (W : World) (hn : xs.length = n) (hA : FS W A xs) (hN : n = 4 * (a * b)) (hc : n ≤ c) (hX : -1000 ≤ X ∧ X ≤ 1000) (hY : -1000 ≤ Y ∧ Y ≤ 1000) (ha : 1 ≤ a ∧ a ≤ 8) (hb : 1 ≤ b ∧ b ≤ 8) (hfr : frErr X Y a b n = 0) : Fn_ Try.prog 79 #[.agg #[iv X, iv Y, iv (a : Int), iv (b : Int), .slice A n c], .agg #[flt (u 0), flt (u 1), flt (u 2)], flt lv, iv wd] W (fun v H => FrR (zebE (numsB [u 0, u 1, u 2]) (numB lv) wd) X Y a b (madeV (fun x y => zebQ x y wd lv (lumaV u (pixF xs X Y a b x y)) (pixF xs X Y a b x y)) X Y a n) v H) := by
  have hab2 := Nat.mul_le_mul ha.2 hb.2
  refine Fn_.intro Try.func79 rfl rfl (by rfl) ?_
  refine CS.seq ?_
  refine CS.region ?_
  refine RS.box rfl (by rfl) (by rfl) ?_
  intro g4
  refine RS.box rfl (by rfl) (by rfl) ?_
  intro g5
  refine RS.box rfl (by rfl) (by rfl) ?_
  intro g6
  refine RS.box rfl (by rfl) (by rfl) ?_
  intro g7
  refine RS.alloc rfl ty26 ?_
  intro g8
  refine RS.q rfl (QO.assign) ?_
  refine RS.nil ?_
  refine thenC_n ?_
  refine CS.seq ?_
  refine CS.seq ?_
  refine CS.region ?_
  first | (refine RS.q rfl (QO.loadB ty26 (by rfl) (by repeat (first | exact List.Mem.head _ | refine List.Mem.tail _ ?_)) (by rfl)) ?_) | (refine RS.q rfl (QO.loadA ty26 (by rfl) (by repeat (first | exact List.Mem.head _ | refine List.Mem.tail _ ?_)) (by rfl) (by rfl)) ?_) | (refine RS.q rfl (QO.loadOA ty26 (by rfl) (by assumption) (by rfl)) ?_)
  refine RS.call rfl (by rfl) ok116 (by rfl) (fun w ho => check _ _ _ _ _ _ _ _) ?_
  rintro _ _ ⟨rfl, rfl⟩
  refine RS.q rfl (QO.assign) ?_
  refine RS.nil ?_
  refine thenC_n ?_
  refine CS.seq ?_
  refine CS.region ?_
  refine RS.q rfl (QO.move) ?_
  refine RS.qv rfl (QO.neq (by rfl) (by rfl)) (congrArg Value.bool (show (frErr X Y (a : Int) (b : Int) n != 0) = false from by rw [hfr]; rfl)) ?_
  refine RS.nil ?_
  refine thenC_n ?_
  refine CS.condF (by rfl) rfl ?_
  refine CS.skip ?_
  refine thenC_n ?_
  refine CS.seq ?_
  refine CS.seq ?_
  refine CS.region ?_
  refine RS.q rfl (QO.cutArr Try.underlying96 ty33 (by rfl)) ?_
  refine RS.call rfl (by rfl) ok129 (by rfl) (fun w ho => allNumbers _ 3 3 [u 0, u 1, u 2] _ rfl (FS.blk' (xs := [u 0, u 1, u 2]) ho (by repeat (first | exact List.Mem.head _ | refine List.Mem.tail _ ?_))) (by decide)) ?_
  rintro _ _ ⟨rfl, rfl⟩
  refine RS.q rfl (QO.not (by rfl)) ?_
  refine RS.q rfl (QO.move) ?_
  refine RS.split (dj := 20) (by rfl) (fun hb0 => ?_) (fun hb0 => ?_)
  · have hb0p := Eq.mp (Bool.not_eq_true' _) hb0
    refine RS.off (dj := 20) rfl (.inl (congrArg Value.bool hb0)) (fun _ => rfl) rfl ?_
    refine RS.off (dj := 20) rfl (.inl (congrArg Value.bool hb0)) (fun _ => rfl) rfl ?_
    refine RS.off (dj := 20) rfl (.inl (congrArg Value.bool hb0)) (fun _ => rfl) rfl ?_
    refine RS.q rfl (QO.pickT (by rfl) hb0 (by rfl)) ?_
    refine RS.nil ?_
    refine thenC_n ?_
    refine CS.condT (by rfl) rfl ?_
    refine CS.seq ?_
    refine CS.region ?_
    refine RS.q rfl (QO.build ty26 pl26 (by rfl)) ?_
    first | refine RS.storeB ty26 (by rfl) (by rfl) (by rfl) (by rfl) (by rfl) (by repeat (first | exact Upd.head | apply Upd.tail)) (by rfl) ?_ | refine RS.storeP ty26 (by rfl) (by rfl) (by rfl) (by rfl) (by rfl) (by repeat (first | exact Upd.head | apply Upd.tail)) (by rfl) ?_
    refine RS.q rfl (QO.assign) ?_
    refine RS.nil ?_
    refine thenC_n ?_
    refine CS.ret ?_
    refine thenC_r ?_
    refine retQ.mk (H' := []) (.inr rfl) (RVs.cellA ty26 (by rfl) (by repeat (first | exact List.Mem.head _ | refine List.Mem.tail _ ?_)) (by rfl) (RVs.tmp (by rfl) RVs.nil)) (List.nil_sublist _) ?_
    exact FrR.mkE (zebE_1 hb0p) (by decide)
  · have hb0p := Eq.mp (Bool.not_eq_false' _) hb0
    refine RS.on (dj := 20) rfl (congrArg Value.bool hb0) ?_
    first | (refine RS.q rfl (QO.load ty33 (by rfl) (by repeat (first | exact List.Mem.head _ | refine List.Mem.tail _ ?_)) (by rfl)) ?_) | (refine RS.q rfl (QO.loadO ty33 (by rfl) (by assumption)) ?_) | (refine RS.q rfl (QO.load ty33 (by rfl) (by repeat (first | exact List.Mem.head _ | refine List.Mem.tail _ ?_)) (by assumption)) ?_)
    refine RS.on (dj := 20) rfl (congrArg Value.bool hb0) ?_
    refine RS.call rfl (by rfl) ok170 (by rfl) (fun w ho => isNumber _ _) ?_
    rintro _ _ ⟨rfl, rfl⟩
    refine RS.on (dj := 20) rfl (congrArg Value.bool hb0) ?_
    refine RS.q rfl (QO.not (by rfl)) ?_
    refine RS.q rfl (QO.pickF (by rfl) hb0 (by rfl)) ?_
    refine RS.nil ?_
    refine thenC_n ?_
    refine CS.cond (by rfl) (fun hb1 => ?_) (fun hb1 => ?_)
    · have hb1p := Eq.mp (Bool.not_eq_true' _) hb1
      refine CS.seq ?_
      refine CS.region ?_
      refine RS.q rfl (QO.build ty26 pl26 (by rfl)) ?_
      first | refine RS.storeB ty26 (by rfl) (by rfl) (by rfl) (by rfl) (by rfl) (by repeat (first | exact Upd.head | apply Upd.tail)) (by rfl) ?_ | refine RS.storeP ty26 (by rfl) (by rfl) (by rfl) (by rfl) (by rfl) (by repeat (first | exact Upd.head | apply Upd.tail)) (by rfl) ?_
      refine RS.q rfl (QO.assign) ?_
      refine RS.nil ?_
      refine thenC_n ?_
      refine CS.ret ?_
      refine thenC_r ?_
      refine retQ.mk (H' := []) (.inr rfl) (RVs.cellA ty26 (by rfl) (by repeat (first | exact List.Mem.head _ | refine List.Mem.tail _ ?_)) (by rfl) (RVs.tmp (by rfl) RVs.nil)) (List.nil_sublist _) ?_
      exact FrR.mkE (zebE_2 hb1p) (by decide)
    · have hb1p := Eq.mp (Bool.not_eq_false' _) hb1
      refine CS.skip ?_
      refine thenC_n ?_
      refine CS.seq ?_
      refine CS.seq ?_
      refine CS.region ?_
      first | (refine RS.q rfl (QO.load ty3 (by rfl) (by repeat (first | exact List.Mem.head _ | refine List.Mem.tail _ ?_)) (by rfl)) ?_) | (refine RS.q rfl (QO.loadO ty3 (by rfl) (by assumption)) ?_) | (refine RS.q rfl (QO.load ty3 (by rfl) (by repeat (first | exact List.Mem.head _ | refine List.Mem.tail _ ?_)) (by assumption)) ?_)
      refine RS.q rfl (QO.lss (by rfl) (by rfl)) ?_
      refine RS.q rfl (QO.move) ?_
      refine RS.split (dj := 28) (by rfl) (fun hb2 => ?_) (fun hb2 => ?_)
      · have hb2p := of_decide_eq_true hb2
        refine RS.off (dj := 28) rfl (.inl (congrArg Value.bool hb2)) (fun _ => rfl) rfl ?_
        refine RS.off (dj := 28) rfl (.inl (congrArg Value.bool hb2)) (fun _ => rfl) rfl ?_
        refine RS.q rfl (QO.pickT (by rfl) hb2 (by rfl)) ?_
        refine RS.nil ?_
        refine thenC_n ?_
        refine CS.condT (by rfl) rfl ?_
        refine CS.seq ?_
        refine CS.region ?_
        refine RS.q rfl (QO.build ty26 pl26 (by rfl)) ?_
        first | refine RS.storeB ty26 (by rfl) (by rfl) (by rfl) (by rfl) (by rfl) (by repeat (first | exact Upd.head | apply Upd.tail)) (by rfl) ?_ | refine RS.storeP ty26 (by rfl) (by rfl) (by rfl) (by rfl) (by rfl) (by repeat (first | exact Upd.head | apply Upd.tail)) (by rfl) ?_
        refine RS.q rfl (QO.assign) ?_
        refine RS.nil ?_
        refine thenC_n ?_
        refine CS.ret ?_
        refine thenC_r ?_
        refine retQ.mk (H' := []) (.inr rfl) (RVs.cellA ty26 (by rfl) (by repeat (first | exact List.Mem.head _ | refine List.Mem.tail _ ?_)) (by rfl) (RVs.tmp (by rfl) RVs.nil)) (List.nil_sublist _) ?_
        exact FrR.mkE (zebE_3 hb0p hb1p (.inl hb2p)) (by decide)
      · have hb2p := of_decide_eq_false hb2
        refine RS.on (dj := 28) rfl (congrArg Value.bool hb2) ?_
        first | (refine RS.q rfl (QO.load ty3 (by rfl) (by repeat (first | exact List.Mem.head _ | refine List.Mem.tail _ ?_)) (by rfl)) ?_) | (refine RS.q rfl (QO.loadO ty3 (by rfl) (by assumption)) ?_) | (refine RS.q rfl (QO.load ty3 (by rfl) (by repeat (first | exact List.Mem.head _ | refine List.Mem.tail _ ?_)) (by assumption)) ?_)
        refine RS.on (dj := 28) rfl (congrArg Value.bool hb2) ?_
        refine RS.q rfl (QO.gtr (by rfl) (by rfl)) ?_
        refine RS.q rfl (QO.pickF (by rfl) hb2 (by rfl)) ?_
        refine RS.nil ?_
        refine thenC_n ?_
        refine CS.cond (by rfl) (fun hb3 => ?_) (fun hb3 => ?_)
        · have hb3p := of_decide_eq_true hb3
          refine CS.seq ?_
          refine CS.region ?_
          refine RS.q rfl (QO.build ty26 pl26 (by rfl)) ?_
          first | refine RS.storeB ty26 (by rfl) (by rfl) (by rfl) (by rfl) (by rfl) (by repeat (first | exact Upd.head | apply Upd.tail)) (by rfl) ?_ | refine RS.storeP ty26 (by rfl) (by rfl) (by rfl) (by rfl) (by rfl) (by repeat (first | exact Upd.head | apply Upd.tail)) (by rfl) ?_
          refine RS.q rfl (QO.assign) ?_
          refine RS.nil ?_
          refine thenC_n ?_
          refine CS.ret ?_
          refine thenC_r ?_
          refine retQ.mk (H' := []) (.inr rfl) (RVs.cellA ty26 (by rfl) (by repeat (first | exact List.Mem.head _ | refine List.Mem.tail _ ?_)) (by rfl) (RVs.tmp (by rfl) RVs.nil)) (List.nil_sublist _) ?_
          exact FrR.mkE (zebE_3 hb0p hb1p (.inr hb3p)) (by decide)
        · have hb3p := of_decide_eq_false hb3
          refine CS.skip ?_
          refine thenC_n ?_
          refine CS.seq ?_
          refine CS.region ?_
          obtain ⟨s, rfl⟩ : ∃ s : Nat, wd = (s : Int) := ⟨wd.toNat, by omega⟩
          first | (refine RS.q rfl (QO.loadB ty26 (by rfl) (by repeat (first | exact List.Mem.head _ | refine List.Mem.tail _ ?_)) (by rfl)) ?_) | (refine RS.q rfl (QO.loadA ty26 (by rfl) (by repeat (first | exact List.Mem.head _ | refine List.Mem.tail _ ?_)) (by rfl) (by rfl)) ?_) | (refine RS.q rfl (QO.loadOA ty26 (by rfl) (by assumption) (by rfl)) ?_)
          first | (refine RS.q rfl (QO.loadB ty96 (by rfl) (by repeat (first | exact List.Mem.head _ | refine List.Mem.tail _ ?_)) (by rfl)) ?_) | (refine RS.q rfl (QO.loadA ty96 (by rfl) (by repeat (first | exact List.Mem.head _ | refine List.Mem.tail _ ?_)) (by rfl) (by rfl)) ?_) | (refine RS.q rfl (QO.loadOA ty96 (by rfl) (by assumption) (by rfl)) ?_)
          refine RS.q rfl (QO.makeFunc) ?_
          refine RS.call rfl (by rfl) ok172 (by rfl) (fun w ho => repainted X Y a b A n c xs u 176 #[.pointer (some ⟨g6, 0, none⟩), .pointer (some ⟨g7, 0, none⟩)] (fun x y q => zebQ x y (s : Int) lv (lumaV u q) q) _ hn (hA.own ho) hN hc hX hY ha hb (by kernel_rfl) (fun wd Hd hd i j q _ _ => zebra1 _ _ (lumaV u q) lv g6 g7 s q wd (hd.old (ho.cell0 (by repeat (first | exact List.Mem.head _ | refine List.Mem.tail _ ?_)) rfl)) (hd.old (ho.cell0 (by repeat (first | exact List.Mem.head _ | refine List.Mem.tail _ ?_)) rfl)) (by omega) (by omega) (by omega) (by omega))) ?_
          rintro _ _ ⟨gr, rfl, rfl⟩
          first | refine RS.storeB ty26 (by rfl) (by rfl) (by rfl) (by rfl) (by rfl) (by repeat (first | exact Upd.head | apply Upd.tail)) (by rfl) ?_ | refine RS.storeP ty26 (by rfl) (by rfl) (by rfl) (by rfl) (by rfl) (by repeat (first | exact Upd.head | apply Upd.tail)) (by rfl) ?_
          refine RS.q rfl (QO.assign) ?_
          refine RS.nil ?_
          refine thenC_n ?_
          refine CS.ret ?_
          refine retQ.mk (H' := [⟨gr, 33, (madeV (fun x y => zebQ x y (s : Int) lv (lumaV u (pixF xs X Y a b x y)) (pixF xs X Y a b x y)) X Y a n).map flt⟩]) (.inr rfl) (RVs.cellA ty26 (by rfl) (by repeat (first | exact List.Mem.head _ | refine List.Mem.tail _ ?_)) (by rfl) (RVs.tmp (by rfl) RVs.nil)) (by repeat (first | exact List.Sublist.refl _ | exact List.nil_sublist _ | refine List.Sublist.cons_cons _ ?_ | refine List.Sublist.cons _ ?_ | exact Sbp.refl | exact Sbp.nil | refine Sbp.cons (by repeat (first | exact Rem.head | apply Rem.tail)) ?_ | exact Sbp.app | refine Sbp.skip ?_)) ?_
          exact FrR.mk0 (madeV_len ..) (by unfold maxLen; omega) (zebE_0 hb0p hb1p (by omega))

set_option maxRecDepth 100000 in
theorem rzebra (X Y : Int) (a b : Nat) (A : Option Addr) (n c : Nat) (xs : List Nat) (u : Nat → Nat) (lv : Nat) (wd : Int) (W : World) (hn : xs.length = n) (hA : FS W A xs) (hN : n = 4 * (a * b)) (hc : n ≤ c) (hX : -1000 ≤ X ∧ X ≤ 1000) (hY : -1000 ≤ Y ∧ Y ≤ 1000) (ha : 1 ≤ a ∧ a ≤ 8) (hb : 1 ≤ b ∧ b ≤ 8) (hfr : frErr X Y a b n = 0) : Fn_ Try.prog 80 #[.agg #[iv X, iv Y, iv (a : Int), iv (b : Int), .slice A n c], .agg #[flt (u 0), flt (u 1), flt (u 2)], flt lv, iv wd] W (fun v H => FrR (zebE (numsB [u 0, u 1, u 2]) (numB lv) wd) X Y a b (madeV (fun x y => zebQ x y wd lv (lumaV u (pixF xs X Y a b x y)) (pixF xs X Y a b x y)) X Y a n) v H) := by
  refine Fn_.intro Try.func80 rfl rfl (by rfl) ?_
  refine CS.seq ?_
  refine CS.region ?_
  refine RS.box rfl (by rfl) (by rfl) ?_
  intro g4
  refine RS.box rfl (by rfl) (by rfl) ?_
  intro g5
  refine RS.box rfl (by rfl) (by rfl) ?_
  intro g6
  refine RS.box rfl (by rfl) (by rfl) ?_
  intro g7
  refine RS.alloc rfl ty26 ?_
  intro g8
  refine RS.q rfl (QO.assign) ?_
  refine RS.nil ?_
  refine thenC_n ?_
  refine CS.cut (X := Unit) (10 :: 11 :: 12 :: 13 :: 14 :: 15 :: 16 :: 17 :: 18 :: 19 :: 20 :: 21 :: 22 :: 23 :: 24 :: 25 :: 26 :: 27 :: []) (fun z => [(10, iv (zebE (numsB [u 0, u 1, u 2]) (numB lv) wd))]) (fun z => [⟨g8, 26, [iv 0, iv 0, iv 0, iv 0, .slice none 0 0]⟩, ⟨g7, 3, [iv wd]⟩, ⟨g6, 33, [flt lv]⟩, ⟨g5, 96, [flt (u 0), flt (u 1), flt (u 2)]⟩, ⟨g4, 26, [iv X, iv Y, iv (a : Int), iv (b : Int), .slice A n c]⟩]) (fun z => True) ?_ ?_
  · refine CS.draw 18 rfl (by kernel_rfl) (by kernel_rfl) ?_
    refine RT.take (i := 0) rfl (by kernel_rfl) rfl (QO.cutArr Try.underlying96 ty33 (by rfl)) ?_
    first | (refine RT.take (i := 4) rfl (by kernel_rfl) rfl (QO.load ty33 (by rfl) (by repeat (first | exact List.Mem.head _ | refine List.Mem.tail _ ?_)) (by rfl)) ?_) | (refine RT.take (i := 4) rfl (by kernel_rfl) rfl (QO.loadO ty33 (by rfl) (by assumption)) ?_) | (refine RT.take (i := 4) rfl (by kernel_rfl) rfl (QO.load ty33 (by rfl) (by repeat (first | exact List.Mem.head _ | refine List.Mem.tail _ ?_)) (by assumption)) ?_)
    first | (refine RT.take (i := 8) rfl (by kernel_rfl) rfl (QO.load ty3 (by rfl) (by repeat (first | exact List.Mem.head _ | refine List.Mem.tail _ ?_)) (by rfl)) ?_) | (refine RT.take (i := 8) rfl (by kernel_rfl) rfl (QO.loadO ty3 (by rfl) (by assumption)) ?_) | (refine RT.take (i := 8) rfl (by kernel_rfl) rfl (QO.load ty3 (by rfl) (by repeat (first | exact List.Mem.head _ | refine List.Mem.tail _ ?_)) (by assumption)) ?_)
    refine RT.take (i := 9) rfl (by kernel_rfl) rfl (QO.lss (by rfl) (by rfl)) ?_
    refine RT.one (i := 1) (by kernel_rfl) rfl rfl ?_
    refine RS.call rfl (by rfl) ok127 (by rfl) (fun w ho => numbers _ 3 3 [u 0, u 1, u 2] _ rfl (FS.blk' (xs := [u 0, u 1, u 2]) ho (by repeat (first | exact List.Mem.head _ | refine List.Mem.tail _ ?_))) (by decide)) ?_
    rintro _ _ ⟨rfl, rfl⟩
    refine RS.nil ⟨(by repeat (first | exact List.Sublist.refl _ | exact List.nil_sublist _ | refine List.Sublist.cons_cons _ ?_ | refine List.Sublist.cons _ ?_ | exact Sbp.refl | exact Sbp.nil | refine Sbp.cons (by repeat (first | exact Rem.head | apply Rem.tail)) ?_ | exact Sbp.app | refine Sbp.skip ?_)), ?_⟩
    refine RT.take (i := 2) rfl (by kernel_rfl) rfl (QO.not (by rfl)) ?_
    refine RT.one (i := 3) (by kernel_rfl) rfl rfl ?_
    refine RS.call rfl (by rfl) ok128 (by rfl) (fun w ho => when _ _ _) ?_
    rintro _ _ ⟨rfl, rfl⟩
    refine RS.nil ⟨(by repeat (first | exact List.Sublist.refl _ | exact List.nil_sublist _ | refine List.Sublist.cons_cons _ ?_ | refine List.Sublist.cons _ ?_ | exact Sbp.refl | exact Sbp.nil | refine Sbp.cons (by repeat (first | exact Rem.head | apply Rem.tail)) ?_ | exact Sbp.app | refine Sbp.skip ?_)), ?_⟩
    refine RT.one (i := 5) (by kernel_rfl) rfl rfl ?_
    refine RS.call rfl (by rfl) ok171 (by rfl) (fun w ho => risNumber _ _) ?_
    rintro _ _ ⟨rfl, rfl⟩
    refine RS.nil ⟨(by repeat (first | exact List.Sublist.refl _ | exact List.nil_sublist _ | refine List.Sublist.cons_cons _ ?_ | refine List.Sublist.cons _ ?_ | exact Sbp.refl | exact Sbp.nil | refine Sbp.cons (by repeat (first | exact Rem.head | apply Rem.tail)) ?_ | exact Sbp.app | refine Sbp.skip ?_)), ?_⟩
    refine RT.take (i := 6) rfl (by kernel_rfl) rfl (QO.not (by rfl)) ?_
    refine RT.one (i := 7) (by kernel_rfl) rfl rfl ?_
    refine RS.call rfl (by rfl) ok128 (by rfl) (fun w ho => when _ _ _) ?_
    rintro _ _ ⟨rfl, rfl⟩
    refine RS.nil ⟨(by repeat (first | exact List.Sublist.refl _ | exact List.nil_sublist _ | refine List.Sublist.cons_cons _ ?_ | refine List.Sublist.cons _ ?_ | exact Sbp.refl | exact Sbp.nil | refine Sbp.cons (by repeat (first | exact Rem.head | apply Rem.tail)) ?_ | exact Sbp.app | refine Sbp.skip ?_)), ?_⟩
    refine RT.take (i := 10) rfl (by kernel_rfl) rfl (QO.move) ?_
    refine RT.split (dj := 21) (by rfl) (fun hb0 => ?_) (fun hb0 => ?_)
    · have hb0p := of_decide_eq_true hb0
      refine RT.takeOff (i := 11) (dj := 21) rfl rfl (.inl (congrArg Value.bool hb0)) (fun _ => rfl) (by kernel_rfl) rfl ?_
      refine RT.takeOff (i := 12) (dj := 21) rfl rfl (.inl (congrArg Value.bool hb0)) (fun _ => rfl) (by kernel_rfl) rfl ?_
      refine RT.take (i := 13) rfl (by kernel_rfl) rfl (QO.pickT (by rfl) hb0 (by rfl)) ?_
      refine RT.one (i := 14) (by kernel_rfl) rfl rfl ?_
      refine RS.call rfl (by rfl) ok128 (by rfl) (fun w ho => when _ _ _) ?_
      rintro _ _ ⟨rfl, rfl⟩
      refine RS.nil ⟨(by repeat (first | exact List.Sublist.refl _ | exact List.nil_sublist _ | refine List.Sublist.cons_cons _ ?_ | refine List.Sublist.cons _ ?_ | exact Sbp.refl | exact Sbp.nil | refine Sbp.cons (by repeat (first | exact Rem.head | apply Rem.tail)) ?_ | exact Sbp.app | refine Sbp.skip ?_)), ?_⟩
      refine RT.one (i := 15) (by kernel_rfl) rfl rfl ?_
      refine RS.buildSlice rfl Try.underlying183 ty30 (by decide) (by decide) (by rfl) (by rfl) ?_
      intro g26
      refine RS.nil ⟨(by repeat (first | exact List.Sublist.refl _ | exact List.nil_sublist _ | refine List.Sublist.cons_cons _ ?_ | refine List.Sublist.cons _ ?_ | exact Sbp.refl | exact Sbp.nil | refine Sbp.cons (by repeat (first | exact Rem.head | apply Rem.tail)) ?_ | exact Sbp.app | refine Sbp.skip ?_)), ?_⟩
      refine RT.one (i := 16) (by kernel_rfl) rfl rfl ?_
      refine RS.call rfl (by rfl) ok131 (by rfl) (fun w ho => firstN [_, _, _] _ _ (fun j v hj => ho.cell0 (by repeat (first | exact List.Mem.head _ | refine List.Mem.tail _ ?_)) hj) (show 3 ≤ maxLen by decide)) ?_
      rintro _ _ ⟨rfl, rfl⟩
      refine RS.nil ⟨(by repeat (first | exact List.Sublist.refl _ | exact List.nil_sublist _ | refine List.Sublist.cons_cons _ ?_ | refine List.Sublist.cons _ ?_ | exact Sbp.refl | exact Sbp.nil | refine Sbp.cons (by repeat (first | exact Rem.head | apply Rem.tail)) ?_ | exact Sbp.app | refine Sbp.skip ?_)), ?_⟩
      refine RT.takev (i := 17) rfl (by kernel_rfl) rfl (QO.assign) (by exact congrArg iv (zeb_first (wd := wd) (by simp; omega))) ?_
      refine RT.done (by kernel_rfl) ?_
      refine cutQ_n (by intro t ht; repeat (first | with_reducible exact rfl | exact frame_puts ht (frame_mix ht) _ rfl | (refine frame_put rfl ht ?_) | (refine frame_puts ht ?_ _ rfl) | exact frame_mix ht | (refine frame_mix2 rfl ht ?_) | exact rfl)) ?_
      exact ⟨(), trivial, (by repeat (first | exact kn_nil | refine kn_cons (by rfl) ?_)), (by repeat (first | exact List.Sublist.refl _ | exact List.nil_sublist _ | refine List.Sublist.cons_cons _ ?_ | refine List.Sublist.cons _ ?_ | exact Sbp.refl | exact Sbp.nil | refine Sbp.cons (by repeat (first | exact Rem.head | apply Rem.tail)) ?_ | exact Sbp.app | refine Sbp.skip ?_))⟩
    · have hb0p := of_decide_eq_false hb0
      first | (refine RT.takeOn (i := 11) (dj := 21) rfl rfl (congrArg Value.bool hb0) (by kernel_rfl) rfl (QO.load ty3 (by rfl) (by repeat (first | exact List.Mem.head _ | refine List.Mem.tail _ ?_)) (by rfl)) ?_) | (refine RT.takeOn (i := 11) (dj := 21) rfl rfl (congrArg Value.bool hb0) (by kernel_rfl) rfl (QO.loadO ty3 (by rfl) (by assumption)) ?_) | (refine RT.takeOn (i := 11) (dj := 21) rfl rfl (congrArg Value.bool hb0) (by kernel_rfl) rfl (QO.load ty3 (by rfl) (by repeat (first | exact List.Mem.head _ | refine List.Mem.tail _ ?_)) (by assumption)) ?_)
      refine RT.takeOn (i := 12) (dj := 21) rfl rfl (congrArg Value.bool hb0) (by kernel_rfl) rfl (QO.gtr (by rfl) (by rfl)) ?_
      refine RT.take (i := 13) rfl (by kernel_rfl) rfl (QO.pickF (by rfl) hb0 (by rfl)) ?_
      refine RT.one (i := 14) (by kernel_rfl) rfl rfl ?_
      refine RS.call rfl (by rfl) ok128 (by rfl) (fun w ho => when _ _ _) ?_
      rintro _ _ ⟨rfl, rfl⟩
      refine RS.nil ⟨(by repeat (first | exact List.Sublist.refl _ | exact List.nil_sublist _ | refine List.Sublist.cons_cons _ ?_ | refine List.Sublist.cons _ ?_ | exact Sbp.refl | exact Sbp.nil | refine Sbp.cons (by repeat (first | exact Rem.head | apply Rem.tail)) ?_ | exact Sbp.app | refine Sbp.skip ?_)), ?_⟩
      refine RT.one (i := 15) (by kernel_rfl) rfl rfl ?_
      refine RS.buildSlice rfl Try.underlying183 ty30 (by decide) (by decide) (by rfl) (by rfl) ?_
      intro g26
      refine RS.nil ⟨(by repeat (first | exact List.Sublist.refl _ | exact List.nil_sublist _ | refine List.Sublist.cons_cons _ ?_ | refine List.Sublist.cons _ ?_ | exact Sbp.refl | exact Sbp.nil | refine Sbp.cons (by repeat (first | exact Rem.head | apply Rem.tail)) ?_ | exact Sbp.app | refine Sbp.skip ?_)), ?_⟩
      refine RT.one (i := 16) (by kernel_rfl) rfl rfl ?_
      refine RS.call rfl (by rfl) ok131 (by rfl) (fun w ho => firstN [_, _, _] _ _ (fun j v hj => ho.cell0 (by repeat (first | exact List.Mem.head _ | refine List.Mem.tail _ ?_)) hj) (show 3 ≤ maxLen by decide)) ?_
      rintro _ _ ⟨rfl, rfl⟩
      refine RS.nil ⟨(by repeat (first | exact List.Sublist.refl _ | exact List.nil_sublist _ | refine List.Sublist.cons_cons _ ?_ | refine List.Sublist.cons _ ?_ | exact Sbp.refl | exact Sbp.nil | refine Sbp.cons (by repeat (first | exact Rem.head | apply Rem.tail)) ?_ | exact Sbp.app | refine Sbp.skip ?_)), ?_⟩
      refine RT.takev (i := 17) rfl (by kernel_rfl) rfl (QO.assign) (by exact congrArg iv (zeb_first (wd := wd) (by simp; omega))) ?_
      refine RT.done (by kernel_rfl) ?_
      refine cutQ_n (by intro t ht; repeat (first | with_reducible exact rfl | exact frame_puts ht (frame_mix ht) _ rfl | (refine frame_put rfl ht ?_) | (refine frame_puts ht ?_ _ rfl) | exact frame_mix ht | (refine frame_mix2 rfl ht ?_) | exact rfl)) ?_
      exact ⟨(), trivial, (by repeat (first | exact kn_nil | refine kn_cons (by rfl) ?_)), (by repeat (first | exact List.Sublist.refl _ | exact List.nil_sublist _ | refine List.Sublist.cons_cons _ ?_ | refine List.Sublist.cons _ ?_ | exact Sbp.refl | exact Sbp.nil | refine Sbp.cons (by repeat (first | exact Rem.head | apply Rem.tail)) ?_ | exact Sbp.app | refine Sbp.skip ?_))⟩
  · intro z gj hz
    refine CS.seq ?_
    refine CS.seq ?_
    refine CS.region ?_
    refine RS.q rfl (QO.move) ?_
    refine RS.q rfl (QO.neq (by rfl) (by rfl)) ?_
    refine RS.nil ?_
    refine thenC_n ?_
    refine CS.cond (by rfl) (fun hb1 => ?_) (fun hb1 => ?_)
    · have hb1p := bne_iff_ne.1 hb1
      refine CS.seq ?_
      refine CS.region ?_
      refine RS.q rfl (QO.build ty26 pl26 (by rfl)) ?_
      refine RS.q rfl (QO.move) ?_
      first | refine RS.storeB ty26 (by rfl) (by rfl) (by rfl) (by rfl) (by rfl) (by repeat (first | exact Upd.head | apply Upd.tail)) (by rfl) ?_ | refine RS.storeP ty26 (by rfl) (by rfl) (by rfl) (by rfl) (by rfl) (by repeat (first | exact Upd.head | apply Upd.tail)) (by rfl) ?_
      refine RS.q rfl (QO.assign) ?_
      refine RS.nil ?_
      refine thenC_n ?_
      refine CS.ret ?_
      refine thenC_r ?_
      refine retQ.mk (H' := []) (.inr rfl) (RVs.cellA ty26 (by rfl) (by repeat (first | exact List.Mem.head _ | refine List.Mem.tail _ ?_)) (by rfl) (RVs.tmp (by rfl) RVs.nil)) (List.nil_sublist _) ?_
      exact FrR.mkE rfl hb1p
    · have hb1p := of_bne_false hb1
      refine CS.skip ?_
      refine thenC_n ?_
      refine CS.seq ?_
      refine CS.region ?_
      have he0 := of_bne_false hb1
      have hwd := zebE_ok he0
      obtain ⟨s, rfl⟩ : ∃ s : Nat, wd = (s : Int) := ⟨wd.toNat, by omega⟩
      refine RS.q rfl (QO.fieldAddr fo26_0 (by rfl)) ?_
      first | (refine RS.q rfl (QO.loadB ty23 (by rfl) (by repeat (first | exact List.Mem.head _ | refine List.Mem.tail _ ?_)) (by rfl)) ?_) | (refine RS.q rfl (QO.loadA ty23 (by rfl) (by repeat (first | exact List.Mem.head _ | refine List.Mem.tail _ ?_)) (by rfl) (by rfl)) ?_) | (refine RS.q rfl (QO.loadOA ty23 (by rfl) (by assumption) (by rfl)) ?_)
      refine RS.q rfl (QO.makeFunc) ?_
      refine RS.call rfl (by rfl) ok95 (by rfl) (fun w ho => made' X Y a b 177 #[.pointer (some ⟨g4, 0, none⟩), .pointer (some ⟨g5, 0, none⟩), .pointer (some ⟨g6, 0, none⟩), .pointer (some ⟨g7, 0, none⟩)] (fun x y => zebQ x y (s : Int) lv (lumaV u (pixF xs X Y a b x y)) (pixF xs X Y a b x y)) _ (by kernel_rfl) (by omega) (by omega) (by omega) (by omega) (fun wd Hd hd x y _ _ _ _ => rzebra1 x y lv g4 g5 g6 g7 s X Y a b A n c xs u wd (fun j v hj => hd.old (ho.cellAt (by repeat (first | exact List.Mem.head _ | refine List.Mem.tail _ ?_)) hj)) (fun j v hj => hd.old (ho.cellAt (by repeat (first | exact List.Mem.head _ | refine List.Mem.tail _ ?_)) hj)) (hd.old (ho.cell0 (by repeat (first | exact List.Mem.head _ | refine List.Mem.tail _ ?_)) rfl)) (hd.old (ho.cell0 (by repeat (first | exact List.Mem.head _ | refine List.Mem.tail _ ?_)) rfl)) (by omega) (by omega) (by omega) (by omega) hn ((hA.own ho).own hd) hN hc hX hY ha hb)) ?_
      intro v35 H35 h35
      rw [← hN] at h35
      obtain ⟨gm, cm, jm, rfl, rfl, hcm, hcx⟩ := h35
      first | refine RS.storeB ty26 (by rfl) (by rfl) (by rfl) (by rfl) (by rfl) (by repeat (first | exact Upd.head | apply Upd.tail)) (by rfl) ?_ | refine RS.storeP ty26 (by rfl) (by rfl) (by rfl) (by rfl) (by rfl) (by repeat (first | exact Upd.head | apply Upd.tail)) (by rfl) ?_
      refine RS.q rfl (QO.assign) ?_
      refine RS.nil ?_
      refine thenC_n ?_
      refine CS.ret ?_
      refine retQ.mk (H' := [⟨gm, 33, (madeV (fun x y => zebQ x y (s : Int) lv (lumaV u (pixF xs X Y a b x y)) (pixF xs X Y a b x y)) X Y a n).map flt ++ jm⟩]) (.inr rfl) (RVs.cellA ty26 (by rfl) (by repeat (first | exact List.Mem.head _ | refine List.Mem.tail _ ?_)) (by rfl) (RVs.tmp (by rfl) RVs.nil)) (by repeat (first | exact List.Sublist.refl _ | exact List.nil_sublist _ | refine List.Sublist.cons_cons _ ?_ | refine List.Sublist.cons _ ?_ | exact Sbp.refl | exact Sbp.nil | refine Sbp.cons (by repeat (first | exact Rem.head | apply Rem.tail)) ?_ | exact Sbp.app | refine Sbp.skip ?_)) ?_
      exact .inl ⟨he0, gm, cm, jm, rfl, rfl, hcm, hcx⟩

end Go.Proofs.Ytplfeaikjgfhcaa
