/-
  Contracts: names. Conditions: as each theorem says.
-/
import Derived.Test.YtapcgokcfmklbaaDoorD1
import Derived.Test.YtapcgokcfmklbaaDoorName
namespace Go.Proofs.YtapcgokcfmklbaaDoor
open Go Go.Proofs Go.RowKit

theorem ty4 : tyChk Tryd.prog 4 = some ([.bool false], false, 1) := by kernel_rfl
theorem ty177 : tyChk Tryd.prog 177 = some (List.replicate 256 (.bool false), true, 256) := by kernel_rfl
theorem ok128 : callOK Tryd.prog 128 = true := by kernel_rfl
theorem ok129 : callOK Tryd.prog 129 = true := by kernel_rfl
theorem ok144 : callOK Tryd.prog 144 = true := by kernel_rfl
theorem ok157 : callOK Tryd.prog 157 = true := by kernel_rfl
theorem ok190 : callOK Tryd.prog 190 = true := by kernel_rfl

set_option maxRecDepth 100000 in
theorem makeSet (cs : List UInt8) (W : World) (hc : ∀ k, k < cs.length → (cs.getD k 0).toNat < 128) (hl : cs.length ≤ 100000) : Fn_ Tryd.prog 128 #[sv cs] W (fun v H => v = .tuple #[.agg (asL cs cs.length).toArray, .bool true] ∧ H = []) := by
  refine Fn_.intro Tryd.func128 rfl rfl (by rfl) ?_
  refine CS.seq ?_
  refine CS.region ?_
  refine RS.alloc rfl ty177 ?_
  intro g2
  refine RS.q rfl (QO.assign) ?_
  refine RS.nil ?_
  refine thenC_n ?_
  refine CS.seq ?_
  refine CS.seq ?_
  refine CS.region ?_
  refine RS.q rfl (QO.assign) ?_
  refine RS.nil ?_
  refine thenC_n ?_
  refine CS.block ?_
  refine CS.loop (X := Nat) (3 :: 4 :: 5 :: 6 :: 7 :: 8 :: 9 :: 10 :: 11 :: 12 :: 13 :: 14 :: 15 :: 16 :: 17 :: 18 :: 19 :: []) (fun k => [(4, iv (k : Int))]) (fun k => [⟨g2, 177, asL cs k⟩]) (fun k => k ≤ cs.length) (fun k => cs.length - k) 0 (Nat.zero_le _) ?_ ?_ ?_
  · exact (by repeat (first | exact kn_nil | refine kn_cons (by rfl) ?_))
  · exact (by rw [asL_zero]; exact (by repeat (first | exact List.Sublist.refl _ | exact List.nil_sublist _ | refine List.Sublist.cons_cons _ ?_ | refine List.Sublist.cons _ ?_ | exact Sbp.refl | exact Sbp.nil | refine Sbp.cons (by repeat (first | exact Rem.head | apply Rem.tail)) ?_ | exact Sbp.app | refine Sbp.skip ?_)))
  intro k gj2 hz
  refine CS.seq ?_
  refine CS.seq ?_
  refine CS.region ?_
  refine RS.q rfl (QO.move) ?_
  refine RS.q rfl (QO.move) ?_
  refine RS.q rfl (QO.lenStr Tryd.underlying9 (by rfl)) ?_
  refine RS.q rfl (QO.lss (by rfl) (by rfl)) ?_
  refine RS.nil ?_
  refine thenC_n ?_
  refine CS.cond (by rfl) (fun hb0 => ?_) (fun hb0 => ?_)
  · have hb0p := of_decide_eq_true hb0
    refine CS.skip ?_
    refine thenC_n ?_
    refine CS.seq ?_
    refine CS.block ?_
    refine CS.seq ?_
    refine CS.region ?_
    refine RS.q rfl (QO.move) ?_
    refine RS.q rfl (QO.move) ?_
    refine RS.q rfl (QO.idxStr Tryd.underlying9 (by rfl) (by rfl) (by omega) (byte_at (i := k) (by omega))) ?_
    refine RS.q rfl (QO.assign) ?_
    refine RS.nil ?_
    refine thenC_n ?_
    refine CS.seq ?_
    refine CS.seq ?_
    refine CS.region ?_
    refine RS.q rfl (QO.move) ?_
    refine RS.q rfl (QO.geq (by rfl) (by rfl)) ?_
    refine RS.nil ?_
    refine thenC_n ?_
    refine CS.condF (by rfl) (decide_eq_false (by have := hc k (by omega); omega)) ?_
    refine CS.skip ?_
    refine thenC_n ?_
    refine CS.region ?_
    have hck := hc k (by omega)
    refine RS.q rfl (QO.move) ?_
    refine RS.q rfl (QO.idxArr0 Tryd.underlying177 ty4 (by rfl) (by rfl) (by rfl) (by omega)) ?_
    refine RS.store1e ty4 rfl (by rfl) (by rfl) (by rfl) (asL_set (by omega)) (by repeat (first | exact Upd.head | apply Upd.tail)) (by rw [asL_len]; omega) ?_
    refine RS.nil ?_
    refine blockC_n ?_
    refine thenC_n ?_
    refine CS.region ?_
    refine RS.q rfl (QO.move) ?_
    refine RS.q rfl (QO.add (by rfl) (by rfl) (by omega) (by omega)) ?_
    refine RS.q rfl (QO.assign) ?_
    refine RS.nil ?_
    refine loopQ_n (by intro t ht; repeat (first | with_reducible exact rfl | exact frame_puts ht (frame_mix ht) _ rfl | (refine frame_put rfl ht ?_) | (refine frame_puts ht ?_ _ rfl) | exact frame_mix ht | (refine frame_mix2 rfl ht ?_) | exact rfl)) ?_
    exact ⟨k + 1, by omega, by omega, (by repeat (first | exact kn_nil | refine kn_cons (by rfl) ?_)), (by repeat (first | exact List.Sublist.refl _ | exact List.nil_sublist _ | refine List.Sublist.cons_cons _ ?_ | refine List.Sublist.cons _ ?_ | exact Sbp.refl | exact Sbp.nil | refine Sbp.cons (by repeat (first | exact Rem.head | apply Rem.tail)) ?_ | exact Sbp.app | refine Sbp.skip ?_))⟩
  have hb0p := of_decide_eq_false hb0
  refine CS.exit ?_
  refine thenC_x ?_
  refine loopQ_x ?_
  refine blockC_x ?_
  refine thenC_n ?_
  refine CS.seq ?_
  refine CS.region ?_
  refine RS.q rfl (QO.loadB ty177 (by rfl) (by repeat (first | exact List.Mem.head _ | refine List.Mem.tail _ ?_)) (by rfl)) ?_
  refine RS.storeB ty177 (by rfl) (by rfl) (by rfl) (by rfl) (by rfl) (by repeat (first | exact Upd.head | apply Upd.tail)) (by rfl) ?_
  refine RS.q rfl (QO.assign) ?_
  refine RS.nil ?_
  refine thenC_n ?_
  refine CS.ret ?_
  refine retQ.mk (H' := []) (.inr rfl) (RVs.cellA ty177 (by rfl) (by repeat (first | exact List.Mem.head _ | refine List.Mem.tail _ ?_)) (by rfl) (RVs.tmp (by rfl) RVs.nil)) (List.nil_sublist _) ?_
  exact ⟨congrArg (fun n => Value.tuple #[.agg (asL cs n).toArray, .bool true]) (show k = cs.length by omega), rfl⟩

set_option maxRecDepth 100000 in
theorem contains1 (g c : Nat) (f : Nat → Bool) (W : World) (hb : c < 256) (hcell : ∀ b, b < 256 → W.cell? ⟨g, b, none⟩ = some (.bool (f b))) : Fn_ Tryd.prog 157 #[.pointer (some ⟨g, 0, none⟩), .int .u8 (c : Int)] W (fun v H => v = .bool (f c) ∧ H = []) := by
  refine Fn_.intro Tryd.func157 rfl rfl (by rfl) ?_
  refine CS.seq ?_
  refine CS.region ?_
  refine RS.q rfl (QO.assign) ?_
  refine RS.nil ?_
  refine thenC_n ?_
  refine CS.seq ?_
  refine CS.region ?_
  refine RS.q rfl (QO.move) ?_
  refine RS.q rfl (QO.move) ?_
  refine RS.q rfl (QO.nilchk (by rfl)) ?_
  refine RS.q rfl (QO.idxArr0 Tryd.underlying177 ty4 (by rfl) (by rfl) (by rfl) (by omega)) ?_
  refine RS.q rfl (QO.loadO ty4 (by rfl) (hcell c hb)) ?_
  refine RS.q rfl (QO.assign) ?_
  refine RS.nil ?_
  refine thenC_n ?_
  refine CS.ret ?_
  refine retQ.mk (H' := []) (.inr rfl) (RVs.tmp (by rfl) RVs.nil) (List.nil_sublist _) ?_
  exact ⟨rfl, rfl⟩

set_option maxRecDepth 100000 in
theorem trimR (l : List UInt8) (g : Nat) (f : Nat → Bool) (W : World) (hl : l.length ≤ maxLen) (hcell : ∀ b, b < 256 → W.cell? ⟨g, b, none⟩ = some (.bool (f b))) : Fn_ Tryd.prog 129 #[sv l, .pointer (some ⟨g, 0, none⟩)] W (fun v H => ∃ m, v = sv m ∧ m.all (fun b : UInt8 => f b.toNat) = l.all (fun b : UInt8 => f b.toNat) ∧ m.length ≤ l.length ∧ H = []) := by
  unfold maxLen at hl
  refine Fn_.intro Tryd.func129 rfl rfl (by rfl) ?_
  refine CS.seq ?_
  refine CS.region ?_
  refine RS.q rfl (QO.assign) ?_
  refine RS.nil ?_
  refine thenC_n ?_
  refine CS.seq ?_
  refine CS.block ?_
  refine CS.loop (X := List UInt8) (0 :: 5 :: 6 :: 7 :: 8 :: 9 :: 10 :: 11 :: 12 :: 13 :: 14 :: 15 :: 16 :: 17 :: 18 :: 19 :: 20 :: []) (fun z => [(0, sv z)]) (fun z => []) (fun z => z.all (fun b : UInt8 => f b.toNat) = l.all (fun b : UInt8 => f b.toNat) ∧ z.length ≤ l.length) (fun z => z.length) l ⟨rfl, Nat.le_refl _⟩ ?_ ?_ ?_
  · exact (by repeat (first | exact kn_nil | refine kn_cons (by rfl) ?_))
  · exact (by repeat (first | exact List.Sublist.refl _ | exact List.nil_sublist _ | refine List.Sublist.cons_cons _ ?_ | refine List.Sublist.cons _ ?_ | exact Sbp.refl | exact Sbp.nil | refine Sbp.cons (by repeat (first | exact Rem.head | apply Rem.tail)) ?_ | exact Sbp.app | refine Sbp.skip ?_))
  intro z gj1 hz
  obtain ⟨hz1, hz2⟩ := hz
  refine CS.seq ?_
  refine CS.seq ?_
  refine CS.region ?_
  refine RS.q rfl (QO.move) ?_
  refine RS.q rfl (QO.lenStr Tryd.underlying9 (by rfl)) ?_
  refine RS.q rfl (QO.gtr (by rfl) (by rfl)) ?_
  refine RS.nil ?_
  refine thenC_n ?_
  refine CS.cond (by rfl) (fun hb0 => ?_) (fun hb0 => ?_)
  · have hb0p := of_decide_eq_true hb0
    refine CS.skip ?_
    refine thenC_n ?_
    refine CS.block ?_
    refine CS.seq ?_
    refine CS.seq ?_
    refine CS.region ?_
    refine RS.q rfl (QO.move) ?_
    refine RS.q rfl (QO.move) ?_
    refine RS.q rfl (QO.move) ?_
    refine RS.q rfl (QO.lenStr Tryd.underlying9 (by rfl)) ?_
    refine RS.qv rfl (QO.sub (by rfl) (by rfl) (by omega) (by omega)) (congrArg iv (show (z.length : Int) - 1 = ((z.length - 1 : Nat) : Int) by omega)) ?_
    refine RS.q rfl (QO.idxStr Tryd.underlying9 (by rfl) (by rfl) (by omega) (byte_at (i := z.length - 1) (by omega))) ?_
    refine RS.call rfl (by rfl) ok157 (by rfl) (fun w ho => contains1 g _ f _ (z.getD (z.length - 1) 0).toNat_lt (fun b hb => ho.old (hcell b hb))) ?_
    rintro _ _ ⟨rfl, rfl⟩
    refine RS.q rfl (QO.not (by rfl)) ?_
    refine RS.nil ?_
    refine thenC_n ?_
    refine CS.cond (by rfl) (fun hb1 => ?_) (fun hb1 => ?_)
    · have hb1p := Eq.mp (Bool.not_eq_true' _) hb1
      refine CS.exit ?_
      refine thenC_x ?_
      refine blockC_y rfl ?_
      refine loopQ_x ?_
      refine blockC_x ?_
      refine thenC_n ?_
      refine CS.seq ?_
      refine CS.region ?_
      refine RS.q rfl (QO.move) ?_
      refine RS.q rfl (QO.assign) ?_
      refine RS.nil ?_
      refine thenC_n ?_
      refine CS.ret ?_
      refine retQ.mk (H' := []) (.inr rfl) (RVs.tmp (by rfl) RVs.nil) (List.nil_sublist _) ?_
      exact ⟨z, rfl, hz1, hz2, rfl⟩
    have hb1p := Eq.mp (Bool.not_eq_false' _) hb1
    refine CS.skip ?_
    refine thenC_n ?_
    refine CS.region ?_
    refine RS.q rfl (QO.move) ?_
    refine RS.q rfl (QO.move) ?_
    refine RS.q rfl (QO.lenStr Tryd.underlying9 (by rfl)) ?_
    refine RS.qv rfl (QO.sub (by rfl) (by rfl) (by omega) (by omega)) (congrArg iv (show (z.length : Int) - 1 = ((z.length - 1 : Nat) : Int) by omega)) ?_
    refine RS.q rfl (QO.cutStrHi (h := ((z.length - 1 : Nat) : Int)) Tryd.underlying9 (by rfl) (by rfl) (by omega) (by omega)) ?_
    refine RS.q rfl (QO.assign) ?_
    refine RS.nil ?_
    refine blockC_n ?_
    refine loopQ_n (by intro t ht; repeat (first | with_reducible exact rfl | exact frame_puts ht (frame_mix ht) _ rfl | (refine frame_put rfl ht ?_) | (refine frame_puts ht ?_ _ rfl) | exact frame_mix ht | (refine frame_mix2 rfl ht ?_) | exact rfl)) ?_
    exact ⟨z.take (z.length - 1), ⟨(all_drop_last (f := (fun b : UInt8 => f b.toNat)) (by omega) (by simpa using hb1p)).trans hz1, by rw [List.length_take]; omega⟩, by rw [List.length_take]; omega, (by repeat (first | exact kn_nil | refine kn_cons (by rfl) ?_)), (by repeat (first | exact List.Sublist.refl _ | exact List.nil_sublist _ | refine List.Sublist.cons_cons _ ?_ | refine List.Sublist.cons _ ?_ | exact Sbp.refl | exact Sbp.nil | refine Sbp.cons (by repeat (first | exact Rem.head | apply Rem.tail)) ?_ | exact Sbp.app | refine Sbp.skip ?_))⟩
  have hb0p := of_decide_eq_false hb0
  refine CS.exit ?_
  refine thenC_x ?_
  refine loopQ_x ?_
  refine blockC_x ?_
  refine thenC_n ?_
  refine CS.seq ?_
  refine CS.region ?_
  refine RS.q rfl (QO.move) ?_
  refine RS.q rfl (QO.assign) ?_
  refine RS.nil ?_
  refine thenC_n ?_
  refine CS.ret ?_
  refine retQ.mk (H' := []) (.inr rfl) (RVs.tmp (by rfl) RVs.nil) (List.nil_sublist _) ?_
  exact ⟨z, rfl, hz1, hz2, rfl⟩

set_option maxRecDepth 100000 in
theorem trimL (l : List UInt8) (g : Nat) (f : Nat → Bool) (W : World) (hl : l.length ≤ maxLen) (hcell : ∀ b, b < 256 → W.cell? ⟨g, b, none⟩ = some (.bool (f b))) : Fn_ Tryd.prog 190 #[sv l, .pointer (some ⟨g, 0, none⟩)] W (fun v H => ∃ m, v = sv m ∧ (m = [] ↔ l.all (fun b : UInt8 => f b.toNat) = true) ∧ H = []) := by
  unfold maxLen at hl
  refine Fn_.intro Tryd.func190 rfl rfl (by rfl) ?_
  refine CS.seq ?_
  refine CS.region ?_
  refine RS.q rfl (QO.assign) ?_
  refine RS.nil ?_
  refine thenC_n ?_
  refine CS.seq ?_
  refine CS.block ?_
  refine CS.loop (X := List UInt8) [0, 5, 6, 7, 8, 9, 10, 11, 12, 13, 14] (fun z => [(0, sv z)]) (fun z => []) (fun z => z.all (fun b : UInt8 => f b.toNat) = l.all (fun b : UInt8 => f b.toNat) ∧ z.length ≤ l.length) (fun z => z.length) l ⟨rfl, Nat.le_refl _⟩ ?_ ?_ ?_
  · exact (by repeat (first | exact kn_nil | refine kn_cons (by rfl) ?_))
  · exact (by repeat (first | exact List.Sublist.refl _ | exact List.nil_sublist _ | refine List.Sublist.cons_cons _ ?_ | refine List.Sublist.cons _ ?_ | exact Sbp.refl | exact Sbp.nil | refine Sbp.cons (by repeat (first | exact Rem.head | apply Rem.tail)) ?_ | exact Sbp.app | refine Sbp.skip ?_))
  intro z gj1 hz
  obtain ⟨hz1, hz2⟩ := hz
  refine CS.seq ?_
  refine CS.seq ?_
  refine CS.region ?_
  refine RS.q rfl (QO.move) ?_
  refine RS.q rfl (QO.lenStr Tryd.underlying9 (by rfl)) ?_
  refine RS.q rfl (QO.gtr (by rfl) (by rfl)) ?_
  refine RS.nil ?_
  refine thenC_n ?_
  refine CS.cond (by rfl) (fun hb0 => ?_) (fun hb0 => ?_)
  · have hb0p := of_decide_eq_true hb0
    refine CS.skip ?_
    refine thenC_n ?_
    refine CS.block ?_
    refine CS.seq ?_
    refine CS.seq ?_
    refine CS.region ?_
    refine RS.q rfl (QO.move) ?_
    refine RS.q rfl (QO.move) ?_
    refine RS.q rfl (QO.idxStr Tryd.underlying9 (by rfl) (by rfl) (by omega) (byte_at (i := 0) (by omega))) ?_
    refine RS.call rfl (by rfl) ok157 (by rfl) (fun w ho => contains1 g _ f _ (z.getD 0 0).toNat_lt (fun b hb => ho.old (hcell b hb))) ?_
    rintro _ _ ⟨rfl, rfl⟩
    refine RS.q rfl (QO.not (by rfl)) ?_
    refine RS.nil ?_
    refine thenC_n ?_
    refine CS.cond (by rfl) (fun hb1 => ?_) (fun hb1 => ?_)
    · have hb1p := Eq.mp (Bool.not_eq_true' _) hb1
      refine CS.exit ?_
      refine thenC_x ?_
      refine blockC_y rfl ?_
      refine loopQ_x ?_
      refine blockC_x ?_
      refine thenC_n ?_
      refine CS.seq ?_
      refine CS.region ?_
      refine RS.q rfl (QO.move) ?_
      refine RS.q rfl (QO.assign) ?_
      refine RS.nil ?_
      refine thenC_n ?_
      refine CS.ret ?_
      refine retQ.mk (H' := []) (.inr rfl) (RVs.tmp (by rfl) RVs.nil) (List.nil_sublist _) ?_
      exact ⟨z, rfl, by rw [← hz1]; exact first_not (by omega) (by simpa using hb1p), rfl⟩
    have hb1p := Eq.mp (Bool.not_eq_false' _) hb1
    refine CS.skip ?_
    refine thenC_n ?_
    refine CS.region ?_
    refine RS.q rfl (QO.move) ?_
    refine RS.q rfl (QO.cutStrLo (i := 1) Tryd.underlying9 (by rfl) (by rfl) (by omega) (by omega)) ?_
    refine RS.q rfl (QO.assign) ?_
    refine RS.nil ?_
    refine blockC_n ?_
    refine loopQ_n (by intro t ht; repeat (first | with_reducible exact rfl | exact frame_puts ht (frame_mix ht) _ rfl | (refine frame_put rfl ht ?_) | (refine frame_puts ht ?_ _ rfl) | exact frame_mix ht | (refine frame_mix2 rfl ht ?_) | exact rfl)) ?_
    exact ⟨z.drop 1, ⟨(all_drop_first (f := (fun b : UInt8 => f b.toNat)) (by omega) (by simpa using hb1p)).trans hz1, by rw [List.length_drop]; omega⟩, by rw [List.length_drop]; omega, (by repeat (first | exact kn_nil | refine kn_cons (by rfl) ?_)), (by repeat (first | exact List.Sublist.refl _ | exact List.nil_sublist _ | refine List.Sublist.cons_cons _ ?_ | refine List.Sublist.cons _ ?_ | exact Sbp.refl | exact Sbp.nil | refine Sbp.cons (by repeat (first | exact Rem.head | apply Rem.tail)) ?_ | exact Sbp.app | refine Sbp.skip ?_))⟩
  have hb0p := of_decide_eq_false hb0
  refine CS.exit ?_
  refine thenC_x ?_
  refine loopQ_x ?_
  refine blockC_x ?_
  refine thenC_n ?_
  refine CS.seq ?_
  refine CS.region ?_
  refine RS.q rfl (QO.move) ?_
  refine RS.q rfl (QO.assign) ?_
  refine RS.nil ?_
  refine thenC_n ?_
  refine CS.ret ?_
  refine retQ.mk (H' := []) (.inr rfl) (RVs.tmp (by rfl) RVs.nil) (List.nil_sublist _) ?_
  exact ⟨z, rfl, by rw [← hz1]; exact nil_all (by omega), rfl⟩

theorem name_128 : ∀ k, k < nameCS.length → (nameCS.getD k 0).toNat < 128 := by decide +kernel
theorem name_at {b : Nat} (h : b < 256) : (asL nameCS nameCS.length)[b]? = some (.bool (isNC b)) := by rw [asL_at h, List.take_length, name_set b h]

set_option maxRecDepth 100000 in
theorem trimN (l : List UInt8) (W : World) (hl : l.length ≤ maxLen) : Fn_ Tryd.prog 144 #[sv l, sv nameCS] W (fun v H => ∃ m, v = sv m ∧ (m = [] ↔ l.all (fun b : UInt8 => isNC b.toNat) = true) ∧ H = []) := by
  refine Fn_.intro Tryd.func144 rfl rfl (by rfl) ?_
  refine CS.seq ?_
  refine CS.region ?_
  refine RS.q rfl (QO.assign) ?_
  refine RS.nil ?_
  refine thenC_n ?_
  refine CS.seq ?_
  refine CS.seq ?_
  refine CS.region ?_
  refine RS.q rfl (QO.move) ?_
  refine RS.q rfl (QO.streq (by rfl) (by rfl)) ?_
  refine RS.q rfl (QO.move) ?_
  refine RS.split (dj := 9) (by rfl) (fun hb0 => ?_) (fun hb0 => ?_)
  · refine RS.off (dj := 9) rfl (.inl (congrArg Value.bool hb0)) (fun _ => rfl) rfl ?_
    refine RS.off (dj := 9) rfl (.inl (congrArg Value.bool hb0)) (fun _ => rfl) rfl ?_
    refine RS.q rfl (QO.pickT (by rfl) hb0 (by rfl)) ?_
    refine RS.nil ?_
    refine thenC_n ?_
    refine CS.condT (by rfl) rfl ?_
    refine CS.seq ?_
    refine CS.region ?_
    refine RS.q rfl (QO.move) ?_
    refine RS.q rfl (QO.assign) ?_
    refine RS.nil ?_
    refine thenC_n ?_
    refine CS.ret ?_
    refine thenC_r ?_
    refine retQ.mk (H' := []) (.inr rfl) (RVs.tmp (by rfl) RVs.nil) (List.nil_sublist _) ?_
    exact ⟨l, rfl, by have h9 : l = [] := (by simpa using hb0); rw [h9]; simp, rfl⟩
  refine RS.on (dj := 9) rfl (congrArg Value.bool hb0) ?_
  refine RS.q rfl (QO.move) ?_
  refine RS.on (dj := 9) rfl (congrArg Value.bool hb0) ?_
  refine RS.q rfl (QO.streq (by rfl) (by rfl)) ?_
  refine RS.q rfl (QO.pickF (by rfl) hb0 (by rfl)) ?_
  refine RS.nil ?_
  refine thenC_n ?_
  refine CS.condF (by rfl) rfl ?_
  refine CS.skip ?_
  refine thenC_n ?_
  refine CS.seq ?_
  refine CS.seq ?_
  refine CS.region ?_
  refine RS.q rfl (QO.move) ?_
  refine RS.q rfl (QO.lenStr Tryd.underlying9 (by rfl)) ?_
  refine RS.q rfl (QO.eql (by rfl) (by rfl)) ?_
  refine RS.q rfl (QO.move) ?_
  refine RS.off (dj := 17) rfl (.inl (congrArg Value.bool rfl)) (fun _ => rfl) rfl ?_
  refine RS.off (dj := 17) rfl (.inl (congrArg Value.bool rfl)) (fun _ => rfl) rfl ?_
  refine RS.off (dj := 17) rfl (.inl (congrArg Value.bool rfl)) (fun _ => rfl) rfl ?_
  refine RS.q rfl (QO.pickF (by rfl) rfl (by rfl)) ?_
  refine RS.nil ?_
  refine thenC_n ?_
  refine CS.condF (by rfl) rfl ?_
  refine CS.skip ?_
  refine thenC_n ?_
  refine CS.seq ?_
  refine CS.seq ?_
  refine CS.region ?_
  refine RS.q rfl (QO.move) ?_
  refine RS.call rfl (by rfl) ok128 (by rfl) (fun w ho => makeSet nameCS _ name_128 (by decide)) ?_
  rintro _ _ ⟨rfl, rfl⟩
  refine RS.q rfl (QO.move) ?_
  refine RS.q rfl (QO.extract (by rfl) (by rfl)) ?_
  refine RS.q rfl (QO.extract (by rfl) (by rfl)) ?_
  refine RS.alloc rfl ty177 ?_
  intro g5
  refine RS.storeB ty177 (by rfl) (by rfl) (vs := asL nameCS nameCS.length) rfl (by rw [asL_len, List.length_replicate]) (asL_one ..) (by repeat (first | exact Upd.head | apply Upd.tail)) (by rw [asL_len, List.length_replicate]) ?_
  refine RS.q rfl (QO.assign) ?_
  refine RS.nil ?_
  refine thenC_n ?_
  refine CS.seq ?_
  refine CS.region ?_
  refine RS.q rfl (QO.move) ?_
  refine RS.nil ?_
  refine thenC_n ?_
  refine CS.condT (by rfl) rfl ?_
  refine CS.seq ?_
  refine CS.region ?_
  refine RS.q rfl (QO.move) ?_
  refine RS.call rfl (by rfl) ok129 (by rfl) (fun w ho => trimR l g5 isNC _ hl (fun b hb => ho.cellG (by repeat (first | exact List.Mem.head _ | refine List.Mem.tail _ ?_)) (name_at hb))) ?_
  rintro _ _ ⟨m36, rfl, hm1, hm2, rfl⟩
  refine RS.call rfl (by rfl) ok190 (by rfl) (fun w ho => trimL m36 g5 isNC _ (Nat.le_trans hm2 hl) (fun b hb => ho.cellG (by repeat (first | exact List.Mem.head _ | refine List.Mem.tail _ ?_)) (name_at hb))) ?_
  rintro _ _ ⟨m37, rfl, hm3, rfl⟩
  refine RS.q rfl (QO.assign) ?_
  refine RS.nil ?_
  refine thenC_n ?_
  refine CS.ret ?_
  refine thenC_r ?_
  refine retQ.mk (H' := []) (.inr rfl) (RVs.tmp (by rfl) RVs.nil) (List.nil_sublist _) ?_
  exact ⟨m37, rfl, by rw [← hm1]; exact hm3, rfl⟩

theorem nameB_1 {l m : List UInt8} (h1 : (l != []) = true) (h2 : decide ((l.length : Int) ≤ 40) = true) (h : m = [] ↔ l.all (fun b => isNC b.toNat) = true) : (m == []) = nameB l := by
  unfold nameB
  have e1 : decide (l ≠ []) = true := decide_eq_true (by simpa using h1)
  have e2 : decide (l.length ≤ 40) = true := decide_eq_true (by have := of_decide_eq_true h2; omega)
  rw [e1, e2, Bool.true_and, Bool.true_and, Bool.eq_iff_iff, beq_iff_eq]
  exact h
theorem nameB_2 {l : List UInt8} (h2 : decide ((l.length : Int) ≤ 40) = false) : false = nameB l := by
  unfold nameB
  have e2 : decide (l.length ≤ 40) = false := decide_eq_false (by have := of_decide_eq_false h2; omega)
  rw [e2]; simp
theorem nameB_3 {l : List UInt8} (h1 : (l != []) = false) : false = nameB l := by
  unfold nameB
  have e1 : decide (l ≠ []) = false := decide_eq_false (by simpa using h1)
  rw [e1]; simp

set_option maxRecDepth 100000 in
theorem isName (l : List UInt8) (W : World) (hl : l.length ≤ maxLen) : Fn_ Tryd.prog 109 #[sv l] W (fun v H => v = .bool (nameB l) ∧ H = []) := by
  refine Fn_.intro Tryd.func109 rfl rfl (by rfl) ?_
  refine CS.seq ?_
  refine CS.region ?_
  refine RS.q rfl (QO.assign) ?_
  refine RS.nil ?_
  refine thenC_n ?_
  refine CS.seq ?_
  refine CS.region ?_
  refine RS.q rfl (QO.move) ?_
  refine RS.q rfl (QO.strne (by rfl) (by rfl)) ?_
  refine RS.q rfl (QO.move) ?_
  refine RS.split (dj := 5) (by rfl) (fun hb0 => ?_) (fun hb0 => ?_)
  · refine RS.on (dj := 5) rfl (congrArg Value.bool hb0) ?_
    refine RS.q rfl (QO.move) ?_
    refine RS.on (dj := 5) rfl (congrArg Value.bool hb0) ?_
    refine RS.q rfl (QO.lenStr Tryd.underlying9 (by rfl)) ?_
    refine RS.on (dj := 5) rfl (congrArg Value.bool hb0) ?_
    refine RS.q rfl (QO.leq (by rfl) (by rfl)) ?_
    refine RS.q rfl (QO.pickT (by rfl) hb0 (by rfl)) ?_
    refine RS.q rfl (QO.move) ?_
    refine RS.split (dj := 10) (by rfl) (fun hb1 => ?_) (fun hb1 => ?_)
    · have hb1p := of_decide_eq_true hb1
      refine RS.on (dj := 10) rfl (congrArg Value.bool hb1) ?_
      refine RS.q rfl (QO.move) ?_
      refine RS.on (dj := 10) rfl (congrArg Value.bool hb1) ?_
      refine RS.call rfl (by rfl) ok144 (by rfl) (fun w ho => trimN l _ hl) ?_
      rintro _ _ ⟨m12, rfl, hm12, rfl⟩
      refine RS.on (dj := 10) rfl (congrArg Value.bool hb1) ?_
      refine RS.q rfl (QO.streq (by rfl) (by rfl)) ?_
      refine RS.q rfl (QO.pickT (by rfl) hb1 (by rfl)) ?_
      refine RS.q rfl (QO.assign) ?_
      refine RS.nil ?_
      refine thenC_n ?_
      refine CS.ret ?_
      refine retQ.mk (H' := []) (.inr rfl) (RVs.tmp (by rfl) RVs.nil) (List.nil_sublist _) ?_
      exact ⟨congrArg Value.bool (by first | exact nameB_1 (by assumption) (by assumption) hm12 | exact nameB_2 (by assumption) | exact nameB_3 (by assumption)), rfl⟩
    have hb1p := of_decide_eq_false hb1
    refine RS.off (dj := 10) rfl (.inl (congrArg Value.bool hb1)) (fun _ => rfl) rfl ?_
    refine RS.off (dj := 10) rfl (.inl (congrArg Value.bool hb1)) (fun _ => rfl) rfl ?_
    refine RS.off (dj := 10) rfl (.inl (congrArg Value.bool hb1)) (fun _ => rfl) rfl ?_
    refine RS.q rfl (QO.pickF (by rfl) hb1 (by rfl)) ?_
    refine RS.q rfl (QO.assign) ?_
    refine RS.nil ?_
    refine thenC_n ?_
    refine CS.ret ?_
    refine retQ.mk (H' := []) (.inr rfl) (RVs.tmp (by rfl) RVs.nil) (List.nil_sublist _) ?_
    exact ⟨congrArg Value.bool (by first | exact nameB_1 (by assumption) (by assumption) hm12 | exact nameB_2 (by assumption) | exact nameB_3 (by assumption)), rfl⟩
  refine RS.off (dj := 5) rfl (.inl (congrArg Value.bool hb0)) (fun _ => rfl) rfl ?_
  refine RS.off (dj := 5) rfl (.inl (congrArg Value.bool hb0)) (fun _ => rfl) rfl ?_
  refine RS.off (dj := 5) rfl (.inl (congrArg Value.bool hb0)) (fun _ => rfl) rfl ?_
  refine RS.q rfl (QO.pickF (by rfl) hb0 (by rfl)) ?_
  refine RS.q rfl (QO.move) ?_
  refine RS.off (dj := 10) rfl (.inl (congrArg Value.bool rfl)) (fun _ => rfl) rfl ?_
  refine RS.off (dj := 10) rfl (.inl (congrArg Value.bool rfl)) (fun _ => rfl) rfl ?_
  refine RS.off (dj := 10) rfl (.inl (congrArg Value.bool rfl)) (fun _ => rfl) rfl ?_
  refine RS.q rfl (QO.pickF (by rfl) rfl (by rfl)) ?_
  refine RS.q rfl (QO.assign) ?_
  refine RS.nil ?_
  refine thenC_n ?_
  refine CS.ret ?_
  refine retQ.mk (H' := []) (.inr rfl) (RVs.tmp (by rfl) RVs.nil) (List.nil_sublist _) ?_
  exact ⟨congrArg Value.bool (by first | exact nameB_1 (by assumption) (by assumption) hm12 | exact nameB_2 (by assumption) | exact nameB_3 (by assumption)), rfl⟩

theorem nc_yes {b : Nat} (h : (97 ≤ (b : Int) ∧ (b : Int) ≤ 122) ∨ (65 ≤ (b : Int) ∧ (b : Int) ≤ 90) ∨ (48 ≤ (b : Int) ∧ (b : Int) ≤ 57) ∨ (b : Int) = 45 ∨ (b : Int) = 46 ∨ (b : Int) = 95) : isNC b = true := decide_eq_true (by omega)
theorem nc_no {b : Nat} (h : ¬ ((97 ≤ (b : Int) ∧ (b : Int) ≤ 122) ∨ (65 ≤ (b : Int) ∧ (b : Int) ≤ 90) ∨ (48 ≤ (b : Int) ∧ (b : Int) ≤ 57) ∨ (b : Int) = 45 ∨ (b : Int) = 46 ∨ (b : Int) = 95)) : isNC b = false := decide_eq_false (by omega)
theorem nameB_4 {l : List UInt8} {k : Nat} (hk : k < l.length) (h : isNC (l.getD k 0).toNat = false) : false = nameB l := by
  have : l.all (fun b => isNC b.toNat) = false := by
    rw [List.all_eq_false]
    refine ⟨l[k], List.getElem_mem _, ?_⟩
    rw [List.getD_eq_getElem?_getD, List.getElem?_eq_getElem hk, Option.getD_some] at h
    simp [h]
  unfold nameB; rw [this, Bool.and_false]
theorem nameB_5 {l : List UInt8} (h1 : (l == []) = false) (h2 : ¬ 40 < (l.length : Int)) (h : ∀ k, k < l.length → isNC (l.getD k 0).toNat = true) : true = nameB l := by
  have : l.all (fun b => isNC b.toNat) = true := by
    rw [List.all_eq_true]
    intro b hb
    obtain ⟨k, hk, rfl⟩ := List.mem_iff_getElem.1 hb
    have := h k hk
    rwa [List.getD_eq_getElem?_getD, List.getElem?_eq_getElem hk, Option.getD_some] at this
  unfold nameB
  have e1 : decide (l ≠ []) = true := decide_eq_true (by simpa using h1)
  have e2 : decide (l.length ≤ 40) = true := decide_eq_true (by omega)
  rw [this, e1, e2]; rfl
theorem nameB_6 {l : List UInt8} (h : (l == []) = true) : false = nameB l := nameB_3 (by simpa using h)
theorem nameB_7 {l : List UInt8} (h : 40 < (l.length : Int)) : false = nameB l := nameB_2 (decide_eq_false (by omega))

set_option maxHeartbeats 4000000 in
set_option maxRecDepth 100000 in
theorem risName (l : List UInt8) (W : World) (hl : l.length ≤ maxLen) : Fn_ Tryd.prog 101 #[sv l] W (fun v H => v = .bool (nameB l) ∧ H = []) := by
  unfold maxLen at hl
  refine Fn_.intro Tryd.func101 rfl rfl (by rfl) ?_
  refine CS.seq ?_
  refine CS.region ?_
  refine RS.q rfl (QO.assign) ?_
  refine RS.nil ?_
  refine thenC_n ?_
  refine CS.seq ?_
  refine CS.seq ?_
  refine CS.region ?_
  refine RS.q rfl (QO.move) ?_
  refine RS.q rfl (QO.streq (by rfl) (by rfl)) ?_
  refine RS.q rfl (QO.move) ?_
  refine RS.split (dj := 7) (by rfl) (fun hb0 => ?_) (fun hb0 => ?_)
  · refine RS.off (dj := 7) rfl (.inl (congrArg Value.bool hb0)) (fun _ => rfl) rfl ?_
    refine RS.off (dj := 7) rfl (.inl (congrArg Value.bool hb0)) (fun _ => rfl) rfl ?_
    refine RS.off (dj := 7) rfl (.inl (congrArg Value.bool hb0)) (fun _ => rfl) rfl ?_
    refine RS.q rfl (QO.pickT (by rfl) hb0 (by rfl)) ?_
    refine RS.nil ?_
    refine thenC_n ?_
    refine CS.condT (by rfl) rfl ?_
    refine CS.seq ?_
    refine CS.region ?_
    refine RS.q rfl (QO.assign) ?_
    refine RS.nil ?_
    refine thenC_n ?_
    refine CS.ret ?_
    refine thenC_r ?_
    refine retQ.mk (H' := []) (.inr rfl) (RVs.tmp (by rfl) RVs.nil) (List.nil_sublist _) ?_
    exact ⟨congrArg Value.bool (by first | exact nameB_6 (by assumption) | exact nameB_7 (by assumption) | exact nameB_4 (k := k) (by omega) (nc_no (by omega)) | exact nameB_5 (by assumption) (by assumption) (fun j hj => hall j (by omega))), rfl⟩
  refine RS.on (dj := 7) rfl (congrArg Value.bool hb0) ?_
  refine RS.q rfl (QO.move) ?_
  refine RS.on (dj := 7) rfl (congrArg Value.bool hb0) ?_
  refine RS.q rfl (QO.lenStr Tryd.underlying9 (by rfl)) ?_
  refine RS.on (dj := 7) rfl (congrArg Value.bool hb0) ?_
  refine RS.q rfl (QO.gtr (by rfl) (by rfl)) ?_
  refine RS.q rfl (QO.pickF (by rfl) hb0 (by rfl)) ?_
  refine RS.nil ?_
  refine thenC_n ?_
  refine CS.cond (by rfl) (fun hb1 => ?_) (fun hb1 => ?_)
  · have hb1p := of_decide_eq_true hb1
    refine CS.seq ?_
    refine CS.region ?_
    refine RS.q rfl (QO.assign) ?_
    refine RS.nil ?_
    refine thenC_n ?_
    refine CS.ret ?_
    refine thenC_r ?_
    refine retQ.mk (H' := []) (.inr rfl) (RVs.tmp (by rfl) RVs.nil) (List.nil_sublist _) ?_
    exact ⟨congrArg Value.bool (by first | exact nameB_6 (by assumption) | exact nameB_7 (by assumption) | exact nameB_4 (k := k) (by omega) (nc_no (by omega)) | exact nameB_5 (by assumption) (by assumption) (fun j hj => hall j (by omega))), rfl⟩
  have hb1p := of_decide_eq_false hb1
  refine CS.skip ?_
  refine thenC_n ?_
  refine CS.seq ?_
  refine CS.seq ?_
  refine CS.region ?_
  refine RS.q rfl (QO.move) ?_
  refine RS.q rfl (QO.lenStr Tryd.underlying9 (by rfl)) ?_
  refine RS.q rfl (QO.move) ?_
  refine RS.nil ?_
  refine thenC_n ?_
  refine CS.block ?_
  refine CS.loop (X := Nat) (2 :: 3 :: 4 :: 14 :: 15 :: 16 :: 17 :: 18 :: 19 :: 20 :: 21 :: 22 :: 23 :: 24 :: 25 :: 26 :: 27 :: 28 :: 29 :: 30 :: 31 :: 32 :: 33 :: 34 :: 35 :: 36 :: 37 :: 38 :: 39 :: 40 :: 41 :: 42 :: 43 :: 44 :: 45 :: 46 :: 47 :: 48 :: 49 :: 50 :: 51 :: 52 :: 53 :: 54 :: []) (fun k => [(14, iv (k : Int))]) (fun k => []) (fun k => k ≤ l.length ∧ ∀ j, j < k → isNC (l.getD j 0).toNat = true) (fun k => l.length - k) 0 ⟨Nat.zero_le _, fun j h => absurd h (Nat.not_lt_zero _)⟩ ?_ ?_ ?_
  · exact (by repeat (first | exact kn_nil | refine kn_cons (by rfl) ?_))
  · exact (by repeat (first | exact List.Sublist.refl _ | exact List.nil_sublist _ | refine List.Sublist.cons_cons _ ?_ | refine List.Sublist.cons _ ?_ | exact Sbp.refl | exact Sbp.nil | refine Sbp.cons (by repeat (first | exact Rem.head | apply Rem.tail)) ?_ | exact Sbp.app | refine Sbp.skip ?_))
  intro k gj4 hz
  obtain ⟨hk, hall⟩ := hz
  refine CS.seq ?_
  refine CS.region ?_
  refine RS.q rfl (QO.lss (by rfl) (by rfl)) ?_
  refine RS.nil ?_
  refine thenC_n ?_
  refine CS.seq ?_
  refine CS.cond (by rfl) (fun hb2 => ?_) (fun hb2 => ?_)
  · have hb2p := of_decide_eq_true hb2
    refine CS.skip ?_
    refine thenC_n ?_
    refine CS.seq ?_
    refine CS.block ?_
    refine CS.seq ?_
    refine CS.region ?_
    refine RS.q rfl (QO.move) ?_
    refine RS.q rfl (QO.assign) ?_
    refine RS.nil ?_
    refine thenC_n ?_
    refine CS.seq ?_
    refine CS.region ?_
    refine RS.q rfl (QO.move) ?_
    refine RS.q rfl (QO.move) ?_
    refine RS.q rfl (QO.idxStr Tryd.underlying9 (by rfl) (by rfl) (by omega) (byte_at (i := k) (by omega))) ?_
    refine RS.q rfl (QO.assign) ?_
    refine RS.nil ?_
    refine thenC_n ?_
    refine CS.seq ?_
    refine CS.region ?_
    refine RS.q rfl (QO.move) ?_
    refine RS.q rfl (QO.lss (by rfl) (by rfl)) ?_
    refine RS.q rfl (QO.move) ?_
    refine RS.split (dj := 22) (by rfl) (fun hb3 => ?_) (fun hb3 => ?_)
    · have hb3p := of_decide_eq_true hb3
      refine RS.off (dj := 22) rfl (.inl (congrArg Value.bool hb3)) (fun _ => rfl) rfl ?_
      refine RS.off (dj := 22) rfl (.inl (congrArg Value.bool hb3)) (fun _ => rfl) rfl ?_
      refine RS.q rfl (QO.pickT (by rfl) hb3 (by rfl)) ?_
      refine RS.q rfl (QO.move) ?_
      refine RS.on (dj := 26) rfl (congrArg Value.bool rfl) ?_
      refine RS.q rfl (QO.move) ?_
      refine RS.on (dj := 26) rfl (congrArg Value.bool rfl) ?_
      refine RS.q rfl (QO.lss (by rfl) (by rfl)) ?_
      refine RS.on (dj := 26) rfl (congrArg Value.bool rfl) ?_
      refine RS.q rfl (QO.move) ?_
      refine RS.split (dj := 29) (by rfl) (fun hb4 => ?_) (fun hb4 => ?_)
      · have hb4p := of_decide_eq_true hb4
        refine RS.off (dj := 29) rfl (.inl (congrArg Value.bool hb4)) (fun _ => rfl) rfl ?_
        refine RS.off (dj := 29) rfl (.inl (congrArg Value.bool hb4)) (fun _ => rfl) rfl ?_
        refine RS.on (dj := 26) rfl (congrArg Value.bool rfl) ?_
        refine RS.q rfl (QO.pickT (by rfl) hb4 (by rfl)) ?_
        refine RS.q rfl (QO.pickT (by rfl) rfl (by rfl)) ?_
        refine RS.q rfl (QO.move) ?_
        refine RS.on (dj := 34) rfl (congrArg Value.bool rfl) ?_
        refine RS.q rfl (QO.move) ?_
        refine RS.on (dj := 34) rfl (congrArg Value.bool rfl) ?_
        refine RS.q rfl (QO.lss (by rfl) (by rfl)) ?_
        refine RS.on (dj := 34) rfl (congrArg Value.bool rfl) ?_
        refine RS.q rfl (QO.move) ?_
        refine RS.split (dj := 37) (by rfl) (fun hb5 => ?_) (fun hb5 => ?_)
        · have hb5p := of_decide_eq_true hb5
          refine RS.off (dj := 37) rfl (.inl (congrArg Value.bool hb5)) (fun _ => rfl) rfl ?_
          refine RS.off (dj := 37) rfl (.inl (congrArg Value.bool hb5)) (fun _ => rfl) rfl ?_
          refine RS.on (dj := 34) rfl (congrArg Value.bool rfl) ?_
          refine RS.q rfl (QO.pickT (by rfl) hb5 (by rfl)) ?_
          refine RS.q rfl (QO.pickT (by rfl) rfl (by rfl)) ?_
          refine RS.q rfl (QO.move) ?_
          refine RS.on (dj := 42) rfl (congrArg Value.bool rfl) ?_
          refine RS.q rfl (QO.move) ?_
          refine RS.on (dj := 42) rfl (congrArg Value.bool rfl) ?_
          refine RS.q rfl (QO.neq (by rfl) (by rfl)) ?_
          refine RS.q rfl (QO.pickT (by rfl) rfl (by rfl)) ?_
          refine RS.q rfl (QO.move) ?_
          refine RS.split (dj := 46) (by rfl) (fun hb6 => ?_) (fun hb6 => ?_)
          · have hb6p := bne_iff_ne.1 hb6
            refine RS.on (dj := 46) rfl (congrArg Value.bool hb6) ?_
            refine RS.q rfl (QO.move) ?_
            refine RS.on (dj := 46) rfl (congrArg Value.bool hb6) ?_
            refine RS.q rfl (QO.neq (by rfl) (by rfl)) ?_
            refine RS.q rfl (QO.pickT (by rfl) hb6 (by rfl)) ?_
            refine RS.q rfl (QO.move) ?_
            refine RS.split (dj := 50) (by rfl) (fun hb7 => ?_) (fun hb7 => ?_)
            · have hb7p := bne_iff_ne.1 hb7
              refine RS.on (dj := 50) rfl (congrArg Value.bool hb7) ?_
              refine RS.q rfl (QO.move) ?_
              refine RS.on (dj := 50) rfl (congrArg Value.bool hb7) ?_
              refine RS.q rfl (QO.neq (by rfl) (by rfl)) ?_
              refine RS.q rfl (QO.pickT (by rfl) hb7 (by rfl)) ?_
              refine RS.nil ?_
              refine thenC_n ?_
              refine CS.cond (by rfl) (fun hb8 => ?_) (fun hb8 => ?_)
              · have hb8p := bne_iff_ne.1 hb8
                refine CS.seq ?_
                refine CS.region ?_
                refine RS.q rfl (QO.assign) ?_
                refine RS.nil ?_
                refine thenC_n ?_
                refine CS.ret ?_
                refine blockC_r ?_
                refine thenC_r ?_
                refine loopQ_r ?_
                refine blockC_r ?_
                refine thenC_r ?_
                refine retQ.mk (H' := []) (.inr rfl) (RVs.tmp (by rfl) RVs.nil) (List.nil_sublist _) ?_
                exact ⟨congrArg Value.bool (by first | exact nameB_6 (by assumption) | exact nameB_7 (by assumption) | exact nameB_4 (k := k) (by omega) (nc_no (by omega)) | exact nameB_5 (by assumption) (by assumption) (fun j hj => hall j (by omega))), rfl⟩
              have hb8p := of_bne_false hb8
              refine CS.skip ?_
              refine blockC_n ?_
              refine thenC_n ?_
              refine CS.region ?_
              refine RS.q rfl (QO.add (by rfl) (by rfl) (by omega) (by omega)) ?_
              refine RS.q rfl (QO.move) ?_
              refine RS.nil ?_
              refine loopQ_n (by intro t ht; repeat (first | with_reducible exact rfl | exact frame_puts ht (frame_mix ht) _ rfl | (refine frame_put rfl ht ?_) | (refine frame_puts ht ?_ _ rfl) | exact frame_mix ht | (refine frame_mix2 rfl ht ?_) | exact rfl)) ?_
              exact ⟨k + 1, ⟨by omega, fun j hj => by
                  by_cases e : j = k
                  · subst e; exact nc_yes (by omega)
                  · exact hall j (by omega)⟩, by omega, (by repeat (first | exact kn_nil | refine kn_cons (by rfl) ?_)), (by repeat (first | exact List.Sublist.refl _ | exact List.nil_sublist _ | refine List.Sublist.cons_cons _ ?_ | refine List.Sublist.cons _ ?_ | exact Sbp.refl | exact Sbp.nil | refine Sbp.cons (by repeat (first | exact Rem.head | apply Rem.tail)) ?_ | exact Sbp.app | refine Sbp.skip ?_))⟩
            have hb7p := of_bne_false hb7
            refine RS.off (dj := 50) rfl (.inl (congrArg Value.bool hb7)) (fun _ => rfl) rfl ?_
            refine RS.off (dj := 50) rfl (.inl (congrArg Value.bool hb7)) (fun _ => rfl) rfl ?_
            refine RS.q rfl (QO.pickF (by rfl) hb7 (by rfl)) ?_
            refine RS.nil ?_
            refine thenC_n ?_
            refine CS.condF (by rfl) rfl ?_
            refine CS.skip ?_
            refine blockC_n ?_
            refine thenC_n ?_
            refine CS.region ?_
            refine RS.q rfl (QO.add (by rfl) (by rfl) (by omega) (by omega)) ?_
            refine RS.q rfl (QO.move) ?_
            refine RS.nil ?_
            refine loopQ_n (by intro t ht; repeat (first | with_reducible exact rfl | exact frame_puts ht (frame_mix ht) _ rfl | (refine frame_put rfl ht ?_) | (refine frame_puts ht ?_ _ rfl) | exact frame_mix ht | (refine frame_mix2 rfl ht ?_) | exact rfl)) ?_
            exact ⟨k + 1, ⟨by omega, fun j hj => by
                by_cases e : j = k
                · subst e; exact nc_yes (by omega)
                · exact hall j (by omega)⟩, by omega, (by repeat (first | exact kn_nil | refine kn_cons (by rfl) ?_)), (by repeat (first | exact List.Sublist.refl _ | exact List.nil_sublist _ | refine List.Sublist.cons_cons _ ?_ | refine List.Sublist.cons _ ?_ | exact Sbp.refl | exact Sbp.nil | refine Sbp.cons (by repeat (first | exact Rem.head | apply Rem.tail)) ?_ | exact Sbp.app | refine Sbp.skip ?_))⟩
          have hb6p := of_bne_false hb6
          refine RS.off (dj := 46) rfl (.inl (congrArg Value.bool hb6)) (fun _ => rfl) rfl ?_
          refine RS.off (dj := 46) rfl (.inl (congrArg Value.bool hb6)) (fun _ => rfl) rfl ?_
          refine RS.q rfl (QO.pickF (by rfl) hb6 (by rfl)) ?_
          refine RS.q rfl (QO.move) ?_
          refine RS.off (dj := 50) rfl (.inl (congrArg Value.bool rfl)) (fun _ => rfl) rfl ?_
          refine RS.off (dj := 50) rfl (.inl (congrArg Value.bool rfl)) (fun _ => rfl) rfl ?_
          refine RS.q rfl (QO.pickF (by rfl) rfl (by rfl)) ?_
          refine RS.nil ?_
          refine thenC_n ?_
          refine CS.condF (by rfl) rfl ?_
          refine CS.skip ?_
          refine blockC_n ?_
          refine thenC_n ?_
          refine CS.region ?_
          refine RS.q rfl (QO.add (by rfl) (by rfl) (by omega) (by omega)) ?_
          refine RS.q rfl (QO.move) ?_
          refine RS.nil ?_
          refine loopQ_n (by intro t ht; repeat (first | with_reducible exact rfl | exact frame_puts ht (frame_mix ht) _ rfl | (refine frame_put rfl ht ?_) | (refine frame_puts ht ?_ _ rfl) | exact frame_mix ht | (refine frame_mix2 rfl ht ?_) | exact rfl)) ?_
          exact ⟨k + 1, ⟨by omega, fun j hj => by
              by_cases e : j = k
              · subst e; exact nc_yes (by omega)
              · exact hall j (by omega)⟩, by omega, (by repeat (first | exact kn_nil | refine kn_cons (by rfl) ?_)), (by repeat (first | exact List.Sublist.refl _ | exact List.nil_sublist _ | refine List.Sublist.cons_cons _ ?_ | refine List.Sublist.cons _ ?_ | exact Sbp.refl | exact Sbp.nil | refine Sbp.cons (by repeat (first | exact Rem.head | apply Rem.tail)) ?_ | exact Sbp.app | refine Sbp.skip ?_))⟩
        have hb5p := of_decide_eq_false hb5
        refine RS.on (dj := 37) rfl (congrArg Value.bool hb5) ?_
        refine RS.q rfl (QO.move) ?_
        refine RS.on (dj := 37) rfl (congrArg Value.bool hb5) ?_
        refine RS.q rfl (QO.gtr (by rfl) (by rfl)) ?_
        refine RS.on (dj := 34) rfl (congrArg Value.bool rfl) ?_
        refine RS.q rfl (QO.pickF (by rfl) hb5 (by rfl)) ?_
        refine RS.q rfl (QO.pickT (by rfl) rfl (by rfl)) ?_
        refine RS.q rfl (QO.move) ?_
        refine RS.split (dj := 42) (by rfl) (fun hb9 => ?_) (fun hb9 => ?_)
        · have hb9p := of_decide_eq_true hb9
          refine RS.on (dj := 42) rfl (congrArg Value.bool hb9) ?_
          refine RS.q rfl (QO.move) ?_
          refine RS.on (dj := 42) rfl (congrArg Value.bool hb9) ?_
          refine RS.q rfl (QO.neq (by rfl) (by rfl)) ?_
          refine RS.q rfl (QO.pickT (by rfl) hb9 (by rfl)) ?_
          refine RS.q rfl (QO.move) ?_
          refine RS.split (dj := 46) (by rfl) (fun hb10 => ?_) (fun hb10 => ?_)
          · have hb10p := bne_iff_ne.1 hb10
            refine RS.on (dj := 46) rfl (congrArg Value.bool hb10) ?_
            refine RS.q rfl (QO.move) ?_
            refine RS.on (dj := 46) rfl (congrArg Value.bool hb10) ?_
            refine RS.q rfl (QO.neq (by rfl) (by rfl)) ?_
            refine RS.q rfl (QO.pickT (by rfl) hb10 (by rfl)) ?_
            refine RS.q rfl (QO.move) ?_
            refine RS.split (dj := 50) (by rfl) (fun hb11 => ?_) (fun hb11 => ?_)
            · have hb11p := bne_iff_ne.1 hb11
              refine RS.on (dj := 50) rfl (congrArg Value.bool hb11) ?_
              refine RS.q rfl (QO.move) ?_
              refine RS.on (dj := 50) rfl (congrArg Value.bool hb11) ?_
              refine RS.q rfl (QO.neq (by rfl) (by rfl)) ?_
              refine RS.q rfl (QO.pickT (by rfl) hb11 (by rfl)) ?_
              refine RS.nil ?_
              refine thenC_n ?_
              refine CS.cond (by rfl) (fun hb12 => ?_) (fun hb12 => ?_)
              · have hb12p := bne_iff_ne.1 hb12
                refine CS.seq ?_
                refine CS.region ?_
                refine RS.q rfl (QO.assign) ?_
                refine RS.nil ?_
                refine thenC_n ?_
                refine CS.ret ?_
                refine blockC_r ?_
                refine thenC_r ?_
                refine loopQ_r ?_
                refine blockC_r ?_
                refine thenC_r ?_
                refine retQ.mk (H' := []) (.inr rfl) (RVs.tmp (by rfl) RVs.nil) (List.nil_sublist _) ?_
                exact ⟨congrArg Value.bool (by first | exact nameB_6 (by assumption) | exact nameB_7 (by assumption) | exact nameB_4 (k := k) (by omega) (nc_no (by omega)) | exact nameB_5 (by assumption) (by assumption) (fun j hj => hall j (by omega))), rfl⟩
              have hb12p := of_bne_false hb12
              refine CS.skip ?_
              refine blockC_n ?_
              refine thenC_n ?_
              refine CS.region ?_
              refine RS.q rfl (QO.add (by rfl) (by rfl) (by omega) (by omega)) ?_
              refine RS.q rfl (QO.move) ?_
              refine RS.nil ?_
              refine loopQ_n (by intro t ht; repeat (first | with_reducible exact rfl | exact frame_puts ht (frame_mix ht) _ rfl | (refine frame_put rfl ht ?_) | (refine frame_puts ht ?_ _ rfl) | exact frame_mix ht | (refine frame_mix2 rfl ht ?_) | exact rfl)) ?_
              exact ⟨k + 1, ⟨by omega, fun j hj => by
                  by_cases e : j = k
                  · subst e; exact nc_yes (by omega)
                  · exact hall j (by omega)⟩, by omega, (by repeat (first | exact kn_nil | refine kn_cons (by rfl) ?_)), (by repeat (first | exact List.Sublist.refl _ | exact List.nil_sublist _ | refine List.Sublist.cons_cons _ ?_ | refine List.Sublist.cons _ ?_ | exact Sbp.refl | exact Sbp.nil | refine Sbp.cons (by repeat (first | exact Rem.head | apply Rem.tail)) ?_ | exact Sbp.app | refine Sbp.skip ?_))⟩
            have hb11p := of_bne_false hb11
            refine RS.off (dj := 50) rfl (.inl (congrArg Value.bool hb11)) (fun _ => rfl) rfl ?_
            refine RS.off (dj := 50) rfl (.inl (congrArg Value.bool hb11)) (fun _ => rfl) rfl ?_
            refine RS.q rfl (QO.pickF (by rfl) hb11 (by rfl)) ?_
            refine RS.nil ?_
            refine thenC_n ?_
            refine CS.condF (by rfl) rfl ?_
            refine CS.skip ?_
            refine blockC_n ?_
            refine thenC_n ?_
            refine CS.region ?_
            refine RS.q rfl (QO.add (by rfl) (by rfl) (by omega) (by omega)) ?_
            refine RS.q rfl (QO.move) ?_
            refine RS.nil ?_
            refine loopQ_n (by intro t ht; repeat (first | with_reducible exact rfl | exact frame_puts ht (frame_mix ht) _ rfl | (refine frame_put rfl ht ?_) | (refine frame_puts ht ?_ _ rfl) | exact frame_mix ht | (refine frame_mix2 rfl ht ?_) | exact rfl)) ?_
            exact ⟨k + 1, ⟨by omega, fun j hj => by
                by_cases e : j = k
                · subst e; exact nc_yes (by omega)
                · exact hall j (by omega)⟩, by omega, (by repeat (first | exact kn_nil | refine kn_cons (by rfl) ?_)), (by repeat (first | exact List.Sublist.refl _ | exact List.nil_sublist _ | refine List.Sublist.cons_cons _ ?_ | refine List.Sublist.cons _ ?_ | exact Sbp.refl | exact Sbp.nil | refine Sbp.cons (by repeat (first | exact Rem.head | apply Rem.tail)) ?_ | exact Sbp.app | refine Sbp.skip ?_))⟩
          have hb10p := of_bne_false hb10
          refine RS.off (dj := 46) rfl (.inl (congrArg Value.bool hb10)) (fun _ => rfl) rfl ?_
          refine RS.off (dj := 46) rfl (.inl (congrArg Value.bool hb10)) (fun _ => rfl) rfl ?_
          refine RS.q rfl (QO.pickF (by rfl) hb10 (by rfl)) ?_
          refine RS.q rfl (QO.move) ?_
          refine RS.off (dj := 50) rfl (.inl (congrArg Value.bool rfl)) (fun _ => rfl) rfl ?_
          refine RS.off (dj := 50) rfl (.inl (congrArg Value.bool rfl)) (fun _ => rfl) rfl ?_
          refine RS.q rfl (QO.pickF (by rfl) rfl (by rfl)) ?_
          refine RS.nil ?_
          refine thenC_n ?_
          refine CS.condF (by rfl) rfl ?_
          refine CS.skip ?_
          refine blockC_n ?_
          refine thenC_n ?_
          refine CS.region ?_
          refine RS.q rfl (QO.add (by rfl) (by rfl) (by omega) (by omega)) ?_
          refine RS.q rfl (QO.move) ?_
          refine RS.nil ?_
          refine loopQ_n (by intro t ht; repeat (first | with_reducible exact rfl | exact frame_puts ht (frame_mix ht) _ rfl | (refine frame_put rfl ht ?_) | (refine frame_puts ht ?_ _ rfl) | exact frame_mix ht | (refine frame_mix2 rfl ht ?_) | exact rfl)) ?_
          exact ⟨k + 1, ⟨by omega, fun j hj => by
              by_cases e : j = k
              · subst e; exact nc_yes (by omega)
              · exact hall j (by omega)⟩, by omega, (by repeat (first | exact kn_nil | refine kn_cons (by rfl) ?_)), (by repeat (first | exact List.Sublist.refl _ | exact List.nil_sublist _ | refine List.Sublist.cons_cons _ ?_ | refine List.Sublist.cons _ ?_ | exact Sbp.refl | exact Sbp.nil | refine Sbp.cons (by repeat (first | exact Rem.head | apply Rem.tail)) ?_ | exact Sbp.app | refine Sbp.skip ?_))⟩
        have hb9p := of_decide_eq_false hb9
        refine RS.off (dj := 42) rfl (.inl (congrArg Value.bool hb9)) (fun _ => rfl) rfl ?_
        refine RS.off (dj := 42) rfl (.inl (congrArg Value.bool hb9)) (fun _ => rfl) rfl ?_
        refine RS.q rfl (QO.pickF (by rfl) hb9 (by rfl)) ?_
        refine RS.q rfl (QO.move) ?_
        refine RS.off (dj := 46) rfl (.inl (congrArg Value.bool rfl)) (fun _ => rfl) rfl ?_
        refine RS.off (dj := 46) rfl (.inl (congrArg Value.bool rfl)) (fun _ => rfl) rfl ?_
        refine RS.q rfl (QO.pickF (by rfl) rfl (by rfl)) ?_
        refine RS.q rfl (QO.move) ?_
        refine RS.off (dj := 50) rfl (.inl (congrArg Value.bool rfl)) (fun _ => rfl) rfl ?_
        refine RS.off (dj := 50) rfl (.inl (congrArg Value.bool rfl)) (fun _ => rfl) rfl ?_
        refine RS.q rfl (QO.pickF (by rfl) rfl (by rfl)) ?_
        refine RS.nil ?_
        refine thenC_n ?_
        refine CS.condF (by rfl) rfl ?_
        refine CS.skip ?_
        refine blockC_n ?_
        refine thenC_n ?_
        refine CS.region ?_
        refine RS.q rfl (QO.add (by rfl) (by rfl) (by omega) (by omega)) ?_
        refine RS.q rfl (QO.move) ?_
        refine RS.nil ?_
        refine loopQ_n (by intro t ht; repeat (first | with_reducible exact rfl | exact frame_puts ht (frame_mix ht) _ rfl | (refine frame_put rfl ht ?_) | (refine frame_puts ht ?_ _ rfl) | exact frame_mix ht | (refine frame_mix2 rfl ht ?_) | exact rfl)) ?_
        exact ⟨k + 1, ⟨by omega, fun j hj => by
            by_cases e : j = k
            · subst e; exact nc_yes (by omega)
            · exact hall j (by omega)⟩, by omega, (by repeat (first | exact kn_nil | refine kn_cons (by rfl) ?_)), (by repeat (first | exact List.Sublist.refl _ | exact List.nil_sublist _ | refine List.Sublist.cons_cons _ ?_ | refine List.Sublist.cons _ ?_ | exact Sbp.refl | exact Sbp.nil | refine Sbp.cons (by repeat (first | exact Rem.head | apply Rem.tail)) ?_ | exact Sbp.app | refine Sbp.skip ?_))⟩
      have hb4p := of_decide_eq_false hb4
      refine RS.on (dj := 29) rfl (congrArg Value.bool hb4) ?_
      refine RS.q rfl (QO.move) ?_
      refine RS.on (dj := 29) rfl (congrArg Value.bool hb4) ?_
      refine RS.q rfl (QO.gtr (by rfl) (by rfl)) ?_
      refine RS.on (dj := 26) rfl (congrArg Value.bool rfl) ?_
      refine RS.q rfl (QO.pickF (by rfl) hb4 (by rfl)) ?_
      refine RS.q rfl (QO.pickT (by rfl) rfl (by rfl)) ?_
      refine RS.q rfl (QO.move) ?_
      refine RS.split (dj := 34) (by rfl) (fun hb13 => ?_) (fun hb13 => ?_)
      · have hb13p := of_decide_eq_true hb13
        refine RS.on (dj := 34) rfl (congrArg Value.bool hb13) ?_
        refine RS.q rfl (QO.move) ?_
        refine RS.on (dj := 34) rfl (congrArg Value.bool hb13) ?_
        refine RS.q rfl (QO.lss (by rfl) (by rfl)) ?_
        refine RS.on (dj := 34) rfl (congrArg Value.bool hb13) ?_
        refine RS.q rfl (QO.move) ?_
        refine RS.split (dj := 37) (by rfl) (fun hb14 => ?_) (fun hb14 => ?_)
        · have hb14p := of_decide_eq_true hb14
          refine RS.off (dj := 37) rfl (.inl (congrArg Value.bool hb14)) (fun _ => rfl) rfl ?_
          refine RS.off (dj := 37) rfl (.inl (congrArg Value.bool hb14)) (fun _ => rfl) rfl ?_
          refine RS.on (dj := 34) rfl (congrArg Value.bool hb13) ?_
          refine RS.q rfl (QO.pickT (by rfl) hb14 (by rfl)) ?_
          refine RS.q rfl (QO.pickT (by rfl) hb13 (by rfl)) ?_
          refine RS.q rfl (QO.move) ?_
          refine RS.on (dj := 42) rfl (congrArg Value.bool rfl) ?_
          refine RS.q rfl (QO.move) ?_
          refine RS.on (dj := 42) rfl (congrArg Value.bool rfl) ?_
          refine RS.q rfl (QO.neq (by rfl) (by rfl)) ?_
          refine RS.q rfl (QO.pickT (by rfl) rfl (by rfl)) ?_
          refine RS.q rfl (QO.move) ?_
          refine RS.split (dj := 46) (by rfl) (fun hb15 => ?_) (fun hb15 => ?_)
          · have hb15p := bne_iff_ne.1 hb15
            refine RS.on (dj := 46) rfl (congrArg Value.bool hb15) ?_
            refine RS.q rfl (QO.move) ?_
            refine RS.on (dj := 46) rfl (congrArg Value.bool hb15) ?_
            refine RS.q rfl (QO.neq (by rfl) (by rfl)) ?_
            refine RS.q rfl (QO.pickT (by rfl) hb15 (by rfl)) ?_
            refine RS.q rfl (QO.move) ?_
            refine RS.split (dj := 50) (by rfl) (fun hb16 => ?_) (fun hb16 => ?_)
            · have hb16p := bne_iff_ne.1 hb16
              refine RS.on (dj := 50) rfl (congrArg Value.bool hb16) ?_
              refine RS.q rfl (QO.move) ?_
              refine RS.on (dj := 50) rfl (congrArg Value.bool hb16) ?_
              refine RS.q rfl (QO.neq (by rfl) (by rfl)) ?_
              refine RS.q rfl (QO.pickT (by rfl) hb16 (by rfl)) ?_
              refine RS.nil ?_
              refine thenC_n ?_
              refine CS.cond (by rfl) (fun hb17 => ?_) (fun hb17 => ?_)
              · have hb17p := bne_iff_ne.1 hb17
                refine CS.seq ?_
                refine CS.region ?_
                refine RS.q rfl (QO.assign) ?_
                refine RS.nil ?_
                refine thenC_n ?_
                refine CS.ret ?_
                refine blockC_r ?_
                refine thenC_r ?_
                refine loopQ_r ?_
                refine blockC_r ?_
                refine thenC_r ?_
                refine retQ.mk (H' := []) (.inr rfl) (RVs.tmp (by rfl) RVs.nil) (List.nil_sublist _) ?_
                exact ⟨congrArg Value.bool (by first | exact nameB_6 (by assumption) | exact nameB_7 (by assumption) | exact nameB_4 (k := k) (by omega) (nc_no (by omega)) | exact nameB_5 (by assumption) (by assumption) (fun j hj => hall j (by omega))), rfl⟩
              have hb17p := of_bne_false hb17
              refine CS.skip ?_
              refine blockC_n ?_
              refine thenC_n ?_
              refine CS.region ?_
              refine RS.q rfl (QO.add (by rfl) (by rfl) (by omega) (by omega)) ?_
              refine RS.q rfl (QO.move) ?_
              refine RS.nil ?_
              refine loopQ_n (by intro t ht; repeat (first | with_reducible exact rfl | exact frame_puts ht (frame_mix ht) _ rfl | (refine frame_put rfl ht ?_) | (refine frame_puts ht ?_ _ rfl) | exact frame_mix ht | (refine frame_mix2 rfl ht ?_) | exact rfl)) ?_
              exact ⟨k + 1, ⟨by omega, fun j hj => by
                  by_cases e : j = k
                  · subst e; exact nc_yes (by omega)
                  · exact hall j (by omega)⟩, by omega, (by repeat (first | exact kn_nil | refine kn_cons (by rfl) ?_)), (by repeat (first | exact List.Sublist.refl _ | exact List.nil_sublist _ | refine List.Sublist.cons_cons _ ?_ | refine List.Sublist.cons _ ?_ | exact Sbp.refl | exact Sbp.nil | refine Sbp.cons (by repeat (first | exact Rem.head | apply Rem.tail)) ?_ | exact Sbp.app | refine Sbp.skip ?_))⟩
            have hb16p := of_bne_false hb16
            refine RS.off (dj := 50) rfl (.inl (congrArg Value.bool hb16)) (fun _ => rfl) rfl ?_
            refine RS.off (dj := 50) rfl (.inl (congrArg Value.bool hb16)) (fun _ => rfl) rfl ?_
            refine RS.q rfl (QO.pickF (by rfl) hb16 (by rfl)) ?_
            refine RS.nil ?_
            refine thenC_n ?_
            refine CS.condF (by rfl) rfl ?_
            refine CS.skip ?_
            refine blockC_n ?_
            refine thenC_n ?_
            refine CS.region ?_
            refine RS.q rfl (QO.add (by rfl) (by rfl) (by omega) (by omega)) ?_
            refine RS.q rfl (QO.move) ?_
            refine RS.nil ?_
            refine loopQ_n (by intro t ht; repeat (first | with_reducible exact rfl | exact frame_puts ht (frame_mix ht) _ rfl | (refine frame_put rfl ht ?_) | (refine frame_puts ht ?_ _ rfl) | exact frame_mix ht | (refine frame_mix2 rfl ht ?_) | exact rfl)) ?_
            exact ⟨k + 1, ⟨by omega, fun j hj => by
                by_cases e : j = k
                · subst e; exact nc_yes (by omega)
                · exact hall j (by omega)⟩, by omega, (by repeat (first | exact kn_nil | refine kn_cons (by rfl) ?_)), (by repeat (first | exact List.Sublist.refl _ | exact List.nil_sublist _ | refine List.Sublist.cons_cons _ ?_ | refine List.Sublist.cons _ ?_ | exact Sbp.refl | exact Sbp.nil | refine Sbp.cons (by repeat (first | exact Rem.head | apply Rem.tail)) ?_ | exact Sbp.app | refine Sbp.skip ?_))⟩
          have hb15p := of_bne_false hb15
          refine RS.off (dj := 46) rfl (.inl (congrArg Value.bool hb15)) (fun _ => rfl) rfl ?_
          refine RS.off (dj := 46) rfl (.inl (congrArg Value.bool hb15)) (fun _ => rfl) rfl ?_
          refine RS.q rfl (QO.pickF (by rfl) hb15 (by rfl)) ?_
          refine RS.q rfl (QO.move) ?_
          refine RS.off (dj := 50) rfl (.inl (congrArg Value.bool rfl)) (fun _ => rfl) rfl ?_
          refine RS.off (dj := 50) rfl (.inl (congrArg Value.bool rfl)) (fun _ => rfl) rfl ?_
          refine RS.q rfl (QO.pickF (by rfl) rfl (by rfl)) ?_
          refine RS.nil ?_
          refine thenC_n ?_
          refine CS.condF (by rfl) rfl ?_
          refine CS.skip ?_
          refine blockC_n ?_
          refine thenC_n ?_
          refine CS.region ?_
          refine RS.q rfl (QO.add (by rfl) (by rfl) (by omega) (by omega)) ?_
          refine RS.q rfl (QO.move) ?_
          refine RS.nil ?_
          refine loopQ_n (by intro t ht; repeat (first | with_reducible exact rfl | exact frame_puts ht (frame_mix ht) _ rfl | (refine frame_put rfl ht ?_) | (refine frame_puts ht ?_ _ rfl) | exact frame_mix ht | (refine frame_mix2 rfl ht ?_) | exact rfl)) ?_
          exact ⟨k + 1, ⟨by omega, fun j hj => by
              by_cases e : j = k
              · subst e; exact nc_yes (by omega)
              · exact hall j (by omega)⟩, by omega, (by repeat (first | exact kn_nil | refine kn_cons (by rfl) ?_)), (by repeat (first | exact List.Sublist.refl _ | exact List.nil_sublist _ | refine List.Sublist.cons_cons _ ?_ | refine List.Sublist.cons _ ?_ | exact Sbp.refl | exact Sbp.nil | refine Sbp.cons (by repeat (first | exact Rem.head | apply Rem.tail)) ?_ | exact Sbp.app | refine Sbp.skip ?_))⟩
        have hb14p := of_decide_eq_false hb14
        refine RS.on (dj := 37) rfl (congrArg Value.bool hb14) ?_
        refine RS.q rfl (QO.move) ?_
        refine RS.on (dj := 37) rfl (congrArg Value.bool hb14) ?_
        refine RS.q rfl (QO.gtr (by rfl) (by rfl)) ?_
        refine RS.on (dj := 34) rfl (congrArg Value.bool hb13) ?_
        refine RS.q rfl (QO.pickF (by rfl) hb14 (by rfl)) ?_
        refine RS.q rfl (QO.pickT (by rfl) hb13 (by rfl)) ?_
        refine RS.q rfl (QO.move) ?_
        refine RS.split (dj := 42) (by rfl) (fun hb18 => ?_) (fun hb18 => ?_)
        · have hb18p := of_decide_eq_true hb18
          refine RS.on (dj := 42) rfl (congrArg Value.bool hb18) ?_
          refine RS.q rfl (QO.move) ?_
          refine RS.on (dj := 42) rfl (congrArg Value.bool hb18) ?_
          refine RS.q rfl (QO.neq (by rfl) (by rfl)) ?_
          refine RS.q rfl (QO.pickT (by rfl) hb18 (by rfl)) ?_
          refine RS.q rfl (QO.move) ?_
          refine RS.split (dj := 46) (by rfl) (fun hb19 => ?_) (fun hb19 => ?_)
          · have hb19p := bne_iff_ne.1 hb19
            refine RS.on (dj := 46) rfl (congrArg Value.bool hb19) ?_
            refine RS.q rfl (QO.move) ?_
            refine RS.on (dj := 46) rfl (congrArg Value.bool hb19) ?_
            refine RS.q rfl (QO.neq (by rfl) (by rfl)) ?_
            refine RS.q rfl (QO.pickT (by rfl) hb19 (by rfl)) ?_
            refine RS.q rfl (QO.move) ?_
            refine RS.split (dj := 50) (by rfl) (fun hb20 => ?_) (fun hb20 => ?_)
            · have hb20p := bne_iff_ne.1 hb20
              refine RS.on (dj := 50) rfl (congrArg Value.bool hb20) ?_
              refine RS.q rfl (QO.move) ?_
              refine RS.on (dj := 50) rfl (congrArg Value.bool hb20) ?_
              refine RS.q rfl (QO.neq (by rfl) (by rfl)) ?_
              refine RS.q rfl (QO.pickT (by rfl) hb20 (by rfl)) ?_
              refine RS.nil ?_
              refine thenC_n ?_
              refine CS.cond (by rfl) (fun hb21 => ?_) (fun hb21 => ?_)
              · have hb21p := bne_iff_ne.1 hb21
                refine CS.seq ?_
                refine CS.region ?_
                refine RS.q rfl (QO.assign) ?_
                refine RS.nil ?_
                refine thenC_n ?_
                refine CS.ret ?_
                refine blockC_r ?_
                refine thenC_r ?_
                refine loopQ_r ?_
                refine blockC_r ?_
                refine thenC_r ?_
                refine retQ.mk (H' := []) (.inr rfl) (RVs.tmp (by rfl) RVs.nil) (List.nil_sublist _) ?_
                exact ⟨congrArg Value.bool (by first | exact nameB_6 (by assumption) | exact nameB_7 (by assumption) | exact nameB_4 (k := k) (by omega) (nc_no (by omega)) | exact nameB_5 (by assumption) (by assumption) (fun j hj => hall j (by omega))), rfl⟩
              have hb21p := of_bne_false hb21
              refine CS.skip ?_
              refine blockC_n ?_
              refine thenC_n ?_
              refine CS.region ?_
              refine RS.q rfl (QO.add (by rfl) (by rfl) (by omega) (by omega)) ?_
              refine RS.q rfl (QO.move) ?_
              refine RS.nil ?_
              refine loopQ_n (by intro t ht; repeat (first | with_reducible exact rfl | exact frame_puts ht (frame_mix ht) _ rfl | (refine frame_put rfl ht ?_) | (refine frame_puts ht ?_ _ rfl) | exact frame_mix ht | (refine frame_mix2 rfl ht ?_) | exact rfl)) ?_
              exact ⟨k + 1, ⟨by omega, fun j hj => by
                  by_cases e : j = k
                  · subst e; exact nc_yes (by omega)
                  · exact hall j (by omega)⟩, by omega, (by repeat (first | exact kn_nil | refine kn_cons (by rfl) ?_)), (by repeat (first | exact List.Sublist.refl _ | exact List.nil_sublist _ | refine List.Sublist.cons_cons _ ?_ | refine List.Sublist.cons _ ?_ | exact Sbp.refl | exact Sbp.nil | refine Sbp.cons (by repeat (first | exact Rem.head | apply Rem.tail)) ?_ | exact Sbp.app | refine Sbp.skip ?_))⟩
            have hb20p := of_bne_false hb20
            refine RS.off (dj := 50) rfl (.inl (congrArg Value.bool hb20)) (fun _ => rfl) rfl ?_
            refine RS.off (dj := 50) rfl (.inl (congrArg Value.bool hb20)) (fun _ => rfl) rfl ?_
            refine RS.q rfl (QO.pickF (by rfl) hb20 (by rfl)) ?_
            refine RS.nil ?_
            refine thenC_n ?_
            refine CS.condF (by rfl) rfl ?_
            refine CS.skip ?_
            refine blockC_n ?_
            refine thenC_n ?_
            refine CS.region ?_
            refine RS.q rfl (QO.add (by rfl) (by rfl) (by omega) (by omega)) ?_
            refine RS.q rfl (QO.move) ?_
            refine RS.nil ?_
            refine loopQ_n (by intro t ht; repeat (first | with_reducible exact rfl | exact frame_puts ht (frame_mix ht) _ rfl | (refine frame_put rfl ht ?_) | (refine frame_puts ht ?_ _ rfl) | exact frame_mix ht | (refine frame_mix2 rfl ht ?_) | exact rfl)) ?_
            exact ⟨k + 1, ⟨by omega, fun j hj => by
                by_cases e : j = k
                · subst e; exact nc_yes (by omega)
                · exact hall j (by omega)⟩, by omega, (by repeat (first | exact kn_nil | refine kn_cons (by rfl) ?_)), (by repeat (first | exact List.Sublist.refl _ | exact List.nil_sublist _ | refine List.Sublist.cons_cons _ ?_ | refine List.Sublist.cons _ ?_ | exact Sbp.refl | exact Sbp.nil | refine Sbp.cons (by repeat (first | exact Rem.head | apply Rem.tail)) ?_ | exact Sbp.app | refine Sbp.skip ?_))⟩
          have hb19p := of_bne_false hb19
          refine RS.off (dj := 46) rfl (.inl (congrArg Value.bool hb19)) (fun _ => rfl) rfl ?_
          refine RS.off (dj := 46) rfl (.inl (congrArg Value.bool hb19)) (fun _ => rfl) rfl ?_
          refine RS.q rfl (QO.pickF (by rfl) hb19 (by rfl)) ?_
          refine RS.q rfl (QO.move) ?_
          refine RS.off (dj := 50) rfl (.inl (congrArg Value.bool rfl)) (fun _ => rfl) rfl ?_
          refine RS.off (dj := 50) rfl (.inl (congrArg Value.bool rfl)) (fun _ => rfl) rfl ?_
          refine RS.q rfl (QO.pickF (by rfl) rfl (by rfl)) ?_
          refine RS.nil ?_
          refine thenC_n ?_
          refine CS.condF (by rfl) rfl ?_
          refine CS.skip ?_
          refine blockC_n ?_
          refine thenC_n ?_
          refine CS.region ?_
          refine RS.q rfl (QO.add (by rfl) (by rfl) (by omega) (by omega)) ?_
          refine RS.q rfl (QO.move) ?_
          refine RS.nil ?_
          refine loopQ_n (by intro t ht; repeat (first | with_reducible exact rfl | exact frame_puts ht (frame_mix ht) _ rfl | (refine frame_put rfl ht ?_) | (refine frame_puts ht ?_ _ rfl) | exact frame_mix ht | (refine frame_mix2 rfl ht ?_) | exact rfl)) ?_
          exact ⟨k + 1, ⟨by omega, fun j hj => by
              by_cases e : j = k
              · subst e; exact nc_yes (by omega)
              · exact hall j (by omega)⟩, by omega, (by repeat (first | exact kn_nil | refine kn_cons (by rfl) ?_)), (by repeat (first | exact List.Sublist.refl _ | exact List.nil_sublist _ | refine List.Sublist.cons_cons _ ?_ | refine List.Sublist.cons _ ?_ | exact Sbp.refl | exact Sbp.nil | refine Sbp.cons (by repeat (first | exact Rem.head | apply Rem.tail)) ?_ | exact Sbp.app | refine Sbp.skip ?_))⟩
        have hb18p := of_decide_eq_false hb18
        refine RS.off (dj := 42) rfl (.inl (congrArg Value.bool hb18)) (fun _ => rfl) rfl ?_
        refine RS.off (dj := 42) rfl (.inl (congrArg Value.bool hb18)) (fun _ => rfl) rfl ?_
        refine RS.q rfl (QO.pickF (by rfl) hb18 (by rfl)) ?_
        refine RS.q rfl (QO.move) ?_
        refine RS.off (dj := 46) rfl (.inl (congrArg Value.bool rfl)) (fun _ => rfl) rfl ?_
        refine RS.off (dj := 46) rfl (.inl (congrArg Value.bool rfl)) (fun _ => rfl) rfl ?_
        refine RS.q rfl (QO.pickF (by rfl) rfl (by rfl)) ?_
        refine RS.q rfl (QO.move) ?_
        refine RS.off (dj := 50) rfl (.inl (congrArg Value.bool rfl)) (fun _ => rfl) rfl ?_
        refine RS.off (dj := 50) rfl (.inl (congrArg Value.bool rfl)) (fun _ => rfl) rfl ?_
        refine RS.q rfl (QO.pickF (by rfl) rfl (by rfl)) ?_
        refine RS.nil ?_
        refine thenC_n ?_
        refine CS.condF (by rfl) rfl ?_
        refine CS.skip ?_
        refine blockC_n ?_
        refine thenC_n ?_
        refine CS.region ?_
        refine RS.q rfl (QO.add (by rfl) (by rfl) (by omega) (by omega)) ?_
        refine RS.q rfl (QO.move) ?_
        refine RS.nil ?_
        refine loopQ_n (by intro t ht; repeat (first | with_reducible exact rfl | exact frame_puts ht (frame_mix ht) _ rfl | (refine frame_put rfl ht ?_) | (refine frame_puts ht ?_ _ rfl) | exact frame_mix ht | (refine frame_mix2 rfl ht ?_) | exact rfl)) ?_
        exact ⟨k + 1, ⟨by omega, fun j hj => by
            by_cases e : j = k
            · subst e; exact nc_yes (by omega)
            · exact hall j (by omega)⟩, by omega, (by repeat (first | exact kn_nil | refine kn_cons (by rfl) ?_)), (by repeat (first | exact List.Sublist.refl _ | exact List.nil_sublist _ | refine List.Sublist.cons_cons _ ?_ | refine List.Sublist.cons _ ?_ | exact Sbp.refl | exact Sbp.nil | refine Sbp.cons (by repeat (first | exact Rem.head | apply Rem.tail)) ?_ | exact Sbp.app | refine Sbp.skip ?_))⟩
      have hb13p := of_decide_eq_false hb13
      refine RS.off (dj := 34) rfl (.inl (congrArg Value.bool hb13)) (fun _ => rfl) rfl ?_
      refine RS.off (dj := 34) rfl (.inl (congrArg Value.bool hb13)) (fun _ => rfl) rfl ?_
      refine RS.off (dj := 34) rfl (.inl (congrArg Value.bool hb13)) (fun _ => rfl) rfl ?_
      refine RS.off (dj := 37) (c := true) rfl (.inr rfl) (fun h => by cases h) rfl ?_
      refine RS.off (dj := 37) (c := true) rfl (.inr rfl) (fun h => by cases h) rfl ?_
      refine RS.off (dj := 34) rfl (.inl (congrArg Value.bool hb13)) (fun _ => rfl) rfl ?_
      refine RS.q rfl (QO.pickF (by rfl) hb13 (by rfl)) ?_
      refine RS.q rfl (QO.move) ?_
      refine RS.off (dj := 42) rfl (.inl (congrArg Value.bool rfl)) (fun _ => rfl) rfl ?_
      refine RS.off (dj := 42) rfl (.inl (congrArg Value.bool rfl)) (fun _ => rfl) rfl ?_
      refine RS.q rfl (QO.pickF (by rfl) rfl (by rfl)) ?_
      refine RS.q rfl (QO.move) ?_
      refine RS.off (dj := 46) rfl (.inl (congrArg Value.bool rfl)) (fun _ => rfl) rfl ?_
      refine RS.off (dj := 46) rfl (.inl (congrArg Value.bool rfl)) (fun _ => rfl) rfl ?_
      refine RS.q rfl (QO.pickF (by rfl) rfl (by rfl)) ?_
      refine RS.q rfl (QO.move) ?_
      refine RS.off (dj := 50) rfl (.inl (congrArg Value.bool rfl)) (fun _ => rfl) rfl ?_
      refine RS.off (dj := 50) rfl (.inl (congrArg Value.bool rfl)) (fun _ => rfl) rfl ?_
      refine RS.q rfl (QO.pickF (by rfl) rfl (by rfl)) ?_
      refine RS.nil ?_
      refine thenC_n ?_
      refine CS.condF (by rfl) rfl ?_
      refine CS.skip ?_
      refine blockC_n ?_
      refine thenC_n ?_
      refine CS.region ?_
      refine RS.q rfl (QO.add (by rfl) (by rfl) (by omega) (by omega)) ?_
      refine RS.q rfl (QO.move) ?_
      refine RS.nil ?_
      refine loopQ_n (by intro t ht; repeat (first | with_reducible exact rfl | exact frame_puts ht (frame_mix ht) _ rfl | (refine frame_put rfl ht ?_) | (refine frame_puts ht ?_ _ rfl) | exact frame_mix ht | (refine frame_mix2 rfl ht ?_) | exact rfl)) ?_
      exact ⟨k + 1, ⟨by omega, fun j hj => by
          by_cases e : j = k
          · subst e; exact nc_yes (by omega)
          · exact hall j (by omega)⟩, by omega, (by repeat (first | exact kn_nil | refine kn_cons (by rfl) ?_)), (by repeat (first | exact List.Sublist.refl _ | exact List.nil_sublist _ | refine List.Sublist.cons_cons _ ?_ | refine List.Sublist.cons _ ?_ | exact Sbp.refl | exact Sbp.nil | refine Sbp.cons (by repeat (first | exact Rem.head | apply Rem.tail)) ?_ | exact Sbp.app | refine Sbp.skip ?_))⟩
    have hb3p := of_decide_eq_false hb3
    refine RS.on (dj := 22) rfl (congrArg Value.bool hb3) ?_
    refine RS.q rfl (QO.move) ?_
    refine RS.on (dj := 22) rfl (congrArg Value.bool hb3) ?_
    refine RS.q rfl (QO.gtr (by rfl) (by rfl)) ?_
    refine RS.q rfl (QO.pickF (by rfl) hb3 (by rfl)) ?_
    refine RS.q rfl (QO.move) ?_
    refine RS.split (dj := 26) (by rfl) (fun hb22 => ?_) (fun hb22 => ?_)
    · have hb22p := of_decide_eq_true hb22
      refine RS.on (dj := 26) rfl (congrArg Value.bool hb22) ?_
      refine RS.q rfl (QO.move) ?_
      refine RS.on (dj := 26) rfl (congrArg Value.bool hb22) ?_
      refine RS.q rfl (QO.lss (by rfl) (by rfl)) ?_
      refine RS.on (dj := 26) rfl (congrArg Value.bool hb22) ?_
      refine RS.q rfl (QO.move) ?_
      refine RS.split (dj := 29) (by rfl) (fun hb23 => ?_) (fun hb23 => ?_)
      · have hb23p := of_decide_eq_true hb23
        refine RS.off (dj := 29) rfl (.inl (congrArg Value.bool hb23)) (fun _ => rfl) rfl ?_
        refine RS.off (dj := 29) rfl (.inl (congrArg Value.bool hb23)) (fun _ => rfl) rfl ?_
        refine RS.on (dj := 26) rfl (congrArg Value.bool hb22) ?_
        refine RS.q rfl (QO.pickT (by rfl) hb23 (by rfl)) ?_
        refine RS.q rfl (QO.pickT (by rfl) hb22 (by rfl)) ?_
        refine RS.q rfl (QO.move) ?_
        refine RS.on (dj := 34) rfl (congrArg Value.bool rfl) ?_
        refine RS.q rfl (QO.move) ?_
        refine RS.on (dj := 34) rfl (congrArg Value.bool rfl) ?_
        refine RS.q rfl (QO.lss (by rfl) (by rfl)) ?_
        refine RS.on (dj := 34) rfl (congrArg Value.bool rfl) ?_
        refine RS.q rfl (QO.move) ?_
        refine RS.split (dj := 37) (by rfl) (fun hb24 => ?_) (fun hb24 => ?_)
        · have hb24p := of_decide_eq_true hb24
          refine RS.off (dj := 37) rfl (.inl (congrArg Value.bool hb24)) (fun _ => rfl) rfl ?_
          refine RS.off (dj := 37) rfl (.inl (congrArg Value.bool hb24)) (fun _ => rfl) rfl ?_
          refine RS.on (dj := 34) rfl (congrArg Value.bool rfl) ?_
          refine RS.q rfl (QO.pickT (by rfl) hb24 (by rfl)) ?_
          refine RS.q rfl (QO.pickT (by rfl) rfl (by rfl)) ?_
          refine RS.q rfl (QO.move) ?_
          refine RS.on (dj := 42) rfl (congrArg Value.bool rfl) ?_
          refine RS.q rfl (QO.move) ?_
          refine RS.on (dj := 42) rfl (congrArg Value.bool rfl) ?_
          refine RS.q rfl (QO.neq (by rfl) (by rfl)) ?_
          refine RS.q rfl (QO.pickT (by rfl) rfl (by rfl)) ?_
          refine RS.q rfl (QO.move) ?_
          refine RS.split (dj := 46) (by rfl) (fun hb25 => ?_) (fun hb25 => ?_)
          · have hb25p := bne_iff_ne.1 hb25
            refine RS.on (dj := 46) rfl (congrArg Value.bool hb25) ?_
            refine RS.q rfl (QO.move) ?_
            refine RS.on (dj := 46) rfl (congrArg Value.bool hb25) ?_
            refine RS.q rfl (QO.neq (by rfl) (by rfl)) ?_
            refine RS.q rfl (QO.pickT (by rfl) hb25 (by rfl)) ?_
            refine RS.q rfl (QO.move) ?_
            refine RS.split (dj := 50) (by rfl) (fun hb26 => ?_) (fun hb26 => ?_)
            · have hb26p := bne_iff_ne.1 hb26
              refine RS.on (dj := 50) rfl (congrArg Value.bool hb26) ?_
              refine RS.q rfl (QO.move) ?_
              refine RS.on (dj := 50) rfl (congrArg Value.bool hb26) ?_
              refine RS.q rfl (QO.neq (by rfl) (by rfl)) ?_
              refine RS.q rfl (QO.pickT (by rfl) hb26 (by rfl)) ?_
              refine RS.nil ?_
              refine thenC_n ?_
              refine CS.cond (by rfl) (fun hb27 => ?_) (fun hb27 => ?_)
              · have hb27p := bne_iff_ne.1 hb27
                refine CS.seq ?_
                refine CS.region ?_
                refine RS.q rfl (QO.assign) ?_
                refine RS.nil ?_
                refine thenC_n ?_
                refine CS.ret ?_
                refine blockC_r ?_
                refine thenC_r ?_
                refine loopQ_r ?_
                refine blockC_r ?_
                refine thenC_r ?_
                refine retQ.mk (H' := []) (.inr rfl) (RVs.tmp (by rfl) RVs.nil) (List.nil_sublist _) ?_
                exact ⟨congrArg Value.bool (by first | exact nameB_6 (by assumption) | exact nameB_7 (by assumption) | exact nameB_4 (k := k) (by omega) (nc_no (by omega)) | exact nameB_5 (by assumption) (by assumption) (fun j hj => hall j (by omega))), rfl⟩
              have hb27p := of_bne_false hb27
              refine CS.skip ?_
              refine blockC_n ?_
              refine thenC_n ?_
              refine CS.region ?_
              refine RS.q rfl (QO.add (by rfl) (by rfl) (by omega) (by omega)) ?_
              refine RS.q rfl (QO.move) ?_
              refine RS.nil ?_
              refine loopQ_n (by intro t ht; repeat (first | with_reducible exact rfl | exact frame_puts ht (frame_mix ht) _ rfl | (refine frame_put rfl ht ?_) | (refine frame_puts ht ?_ _ rfl) | exact frame_mix ht | (refine frame_mix2 rfl ht ?_) | exact rfl)) ?_
              exact ⟨k + 1, ⟨by omega, fun j hj => by
                  by_cases e : j = k
                  · subst e; exact nc_yes (by omega)
                  · exact hall j (by omega)⟩, by omega, (by repeat (first | exact kn_nil | refine kn_cons (by rfl) ?_)), (by repeat (first | exact List.Sublist.refl _ | exact List.nil_sublist _ | refine List.Sublist.cons_cons _ ?_ | refine List.Sublist.cons _ ?_ | exact Sbp.refl | exact Sbp.nil | refine Sbp.cons (by repeat (first | exact Rem.head | apply Rem.tail)) ?_ | exact Sbp.app | refine Sbp.skip ?_))⟩
            have hb26p := of_bne_false hb26
            refine RS.off (dj := 50) rfl (.inl (congrArg Value.bool hb26)) (fun _ => rfl) rfl ?_
            refine RS.off (dj := 50) rfl (.inl (congrArg Value.bool hb26)) (fun _ => rfl) rfl ?_
            refine RS.q rfl (QO.pickF (by rfl) hb26 (by rfl)) ?_
            refine RS.nil ?_
            refine thenC_n ?_
            refine CS.condF (by rfl) rfl ?_
            refine CS.skip ?_
            refine blockC_n ?_
            refine thenC_n ?_
            refine CS.region ?_
            refine RS.q rfl (QO.add (by rfl) (by rfl) (by omega) (by omega)) ?_
            refine RS.q rfl (QO.move) ?_
            refine RS.nil ?_
            refine loopQ_n (by intro t ht; repeat (first | with_reducible exact rfl | exact frame_puts ht (frame_mix ht) _ rfl | (refine frame_put rfl ht ?_) | (refine frame_puts ht ?_ _ rfl) | exact frame_mix ht | (refine frame_mix2 rfl ht ?_) | exact rfl)) ?_
            exact ⟨k + 1, ⟨by omega, fun j hj => by
                by_cases e : j = k
                · subst e; exact nc_yes (by omega)
                · exact hall j (by omega)⟩, by omega, (by repeat (first | exact kn_nil | refine kn_cons (by rfl) ?_)), (by repeat (first | exact List.Sublist.refl _ | exact List.nil_sublist _ | refine List.Sublist.cons_cons _ ?_ | refine List.Sublist.cons _ ?_ | exact Sbp.refl | exact Sbp.nil | refine Sbp.cons (by repeat (first | exact Rem.head | apply Rem.tail)) ?_ | exact Sbp.app | refine Sbp.skip ?_))⟩
          have hb25p := of_bne_false hb25
          refine RS.off (dj := 46) rfl (.inl (congrArg Value.bool hb25)) (fun _ => rfl) rfl ?_
          refine RS.off (dj := 46) rfl (.inl (congrArg Value.bool hb25)) (fun _ => rfl) rfl ?_
          refine RS.q rfl (QO.pickF (by rfl) hb25 (by rfl)) ?_
          refine RS.q rfl (QO.move) ?_
          refine RS.off (dj := 50) rfl (.inl (congrArg Value.bool rfl)) (fun _ => rfl) rfl ?_
          refine RS.off (dj := 50) rfl (.inl (congrArg Value.bool rfl)) (fun _ => rfl) rfl ?_
          refine RS.q rfl (QO.pickF (by rfl) rfl (by rfl)) ?_
          refine RS.nil ?_
          refine thenC_n ?_
          refine CS.condF (by rfl) rfl ?_
          refine CS.skip ?_
          refine blockC_n ?_
          refine thenC_n ?_
          refine CS.region ?_
          refine RS.q rfl (QO.add (by rfl) (by rfl) (by omega) (by omega)) ?_
          refine RS.q rfl (QO.move) ?_
          refine RS.nil ?_
          refine loopQ_n (by intro t ht; repeat (first | with_reducible exact rfl | exact frame_puts ht (frame_mix ht) _ rfl | (refine frame_put rfl ht ?_) | (refine frame_puts ht ?_ _ rfl) | exact frame_mix ht | (refine frame_mix2 rfl ht ?_) | exact rfl)) ?_
          exact ⟨k + 1, ⟨by omega, fun j hj => by
              by_cases e : j = k
              · subst e; exact nc_yes (by omega)
              · exact hall j (by omega)⟩, by omega, (by repeat (first | exact kn_nil | refine kn_cons (by rfl) ?_)), (by repeat (first | exact List.Sublist.refl _ | exact List.nil_sublist _ | refine List.Sublist.cons_cons _ ?_ | refine List.Sublist.cons _ ?_ | exact Sbp.refl | exact Sbp.nil | refine Sbp.cons (by repeat (first | exact Rem.head | apply Rem.tail)) ?_ | exact Sbp.app | refine Sbp.skip ?_))⟩
        have hb24p := of_decide_eq_false hb24
        refine RS.on (dj := 37) rfl (congrArg Value.bool hb24) ?_
        refine RS.q rfl (QO.move) ?_
        refine RS.on (dj := 37) rfl (congrArg Value.bool hb24) ?_
        refine RS.q rfl (QO.gtr (by rfl) (by rfl)) ?_
        refine RS.on (dj := 34) rfl (congrArg Value.bool rfl) ?_
        refine RS.q rfl (QO.pickF (by rfl) hb24 (by rfl)) ?_
        refine RS.q rfl (QO.pickT (by rfl) rfl (by rfl)) ?_
        refine RS.q rfl (QO.move) ?_
        refine RS.split (dj := 42) (by rfl) (fun hb28 => ?_) (fun hb28 => ?_)
        · have hb28p := of_decide_eq_true hb28
          refine RS.on (dj := 42) rfl (congrArg Value.bool hb28) ?_
          refine RS.q rfl (QO.move) ?_
          refine RS.on (dj := 42) rfl (congrArg Value.bool hb28) ?_
          refine RS.q rfl (QO.neq (by rfl) (by rfl)) ?_
          refine RS.q rfl (QO.pickT (by rfl) hb28 (by rfl)) ?_
          refine RS.q rfl (QO.move) ?_
          refine RS.split (dj := 46) (by rfl) (fun hb29 => ?_) (fun hb29 => ?_)
          · have hb29p := bne_iff_ne.1 hb29
            refine RS.on (dj := 46) rfl (congrArg Value.bool hb29) ?_
            refine RS.q rfl (QO.move) ?_
            refine RS.on (dj := 46) rfl (congrArg Value.bool hb29) ?_
            refine RS.q rfl (QO.neq (by rfl) (by rfl)) ?_
            refine RS.q rfl (QO.pickT (by rfl) hb29 (by rfl)) ?_
            refine RS.q rfl (QO.move) ?_
            refine RS.split (dj := 50) (by rfl) (fun hb30 => ?_) (fun hb30 => ?_)
            · have hb30p := bne_iff_ne.1 hb30
              refine RS.on (dj := 50) rfl (congrArg Value.bool hb30) ?_
              refine RS.q rfl (QO.move) ?_
              refine RS.on (dj := 50) rfl (congrArg Value.bool hb30) ?_
              refine RS.q rfl (QO.neq (by rfl) (by rfl)) ?_
              refine RS.q rfl (QO.pickT (by rfl) hb30 (by rfl)) ?_
              refine RS.nil ?_
              refine thenC_n ?_
              refine CS.cond (by rfl) (fun hb31 => ?_) (fun hb31 => ?_)
              · have hb31p := bne_iff_ne.1 hb31
                refine CS.seq ?_
                refine CS.region ?_
                refine RS.q rfl (QO.assign) ?_
                refine RS.nil ?_
                refine thenC_n ?_
                refine CS.ret ?_
                refine blockC_r ?_
                refine thenC_r ?_
                refine loopQ_r ?_
                refine blockC_r ?_
                refine thenC_r ?_
                refine retQ.mk (H' := []) (.inr rfl) (RVs.tmp (by rfl) RVs.nil) (List.nil_sublist _) ?_
                exact ⟨congrArg Value.bool (by first | exact nameB_6 (by assumption) | exact nameB_7 (by assumption) | exact nameB_4 (k := k) (by omega) (nc_no (by omega)) | exact nameB_5 (by assumption) (by assumption) (fun j hj => hall j (by omega))), rfl⟩
              have hb31p := of_bne_false hb31
              refine CS.skip ?_
              refine blockC_n ?_
              refine thenC_n ?_
              refine CS.region ?_
              refine RS.q rfl (QO.add (by rfl) (by rfl) (by omega) (by omega)) ?_
              refine RS.q rfl (QO.move) ?_
              refine RS.nil ?_
              refine loopQ_n (by intro t ht; repeat (first | with_reducible exact rfl | exact frame_puts ht (frame_mix ht) _ rfl | (refine frame_put rfl ht ?_) | (refine frame_puts ht ?_ _ rfl) | exact frame_mix ht | (refine frame_mix2 rfl ht ?_) | exact rfl)) ?_
              exact ⟨k + 1, ⟨by omega, fun j hj => by
                  by_cases e : j = k
                  · subst e; exact nc_yes (by omega)
                  · exact hall j (by omega)⟩, by omega, (by repeat (first | exact kn_nil | refine kn_cons (by rfl) ?_)), (by repeat (first | exact List.Sublist.refl _ | exact List.nil_sublist _ | refine List.Sublist.cons_cons _ ?_ | refine List.Sublist.cons _ ?_ | exact Sbp.refl | exact Sbp.nil | refine Sbp.cons (by repeat (first | exact Rem.head | apply Rem.tail)) ?_ | exact Sbp.app | refine Sbp.skip ?_))⟩
            have hb30p := of_bne_false hb30
            refine RS.off (dj := 50) rfl (.inl (congrArg Value.bool hb30)) (fun _ => rfl) rfl ?_
            refine RS.off (dj := 50) rfl (.inl (congrArg Value.bool hb30)) (fun _ => rfl) rfl ?_
            refine RS.q rfl (QO.pickF (by rfl) hb30 (by rfl)) ?_
            refine RS.nil ?_
            refine thenC_n ?_
            refine CS.condF (by rfl) rfl ?_
            refine CS.skip ?_
            refine blockC_n ?_
            refine thenC_n ?_
            refine CS.region ?_
            refine RS.q rfl (QO.add (by rfl) (by rfl) (by omega) (by omega)) ?_
            refine RS.q rfl (QO.move) ?_
            refine RS.nil ?_
            refine loopQ_n (by intro t ht; repeat (first | with_reducible exact rfl | exact frame_puts ht (frame_mix ht) _ rfl | (refine frame_put rfl ht ?_) | (refine frame_puts ht ?_ _ rfl) | exact frame_mix ht | (refine frame_mix2 rfl ht ?_) | exact rfl)) ?_
            exact ⟨k + 1, ⟨by omega, fun j hj => by
                by_cases e : j = k
                · subst e; exact nc_yes (by omega)
                · exact hall j (by omega)⟩, by omega, (by repeat (first | exact kn_nil | refine kn_cons (by rfl) ?_)), (by repeat (first | exact List.Sublist.refl _ | exact List.nil_sublist _ | refine List.Sublist.cons_cons _ ?_ | refine List.Sublist.cons _ ?_ | exact Sbp.refl | exact Sbp.nil | refine Sbp.cons (by repeat (first | exact Rem.head | apply Rem.tail)) ?_ | exact Sbp.app | refine Sbp.skip ?_))⟩
          have hb29p := of_bne_false hb29
          refine RS.off (dj := 46) rfl (.inl (congrArg Value.bool hb29)) (fun _ => rfl) rfl ?_
          refine RS.off (dj := 46) rfl (.inl (congrArg Value.bool hb29)) (fun _ => rfl) rfl ?_
          refine RS.q rfl (QO.pickF (by rfl) hb29 (by rfl)) ?_
          refine RS.q rfl (QO.move) ?_
          refine RS.off (dj := 50) rfl (.inl (congrArg Value.bool rfl)) (fun _ => rfl) rfl ?_
          refine RS.off (dj := 50) rfl (.inl (congrArg Value.bool rfl)) (fun _ => rfl) rfl ?_
          refine RS.q rfl (QO.pickF (by rfl) rfl (by rfl)) ?_
          refine RS.nil ?_
          refine thenC_n ?_
          refine CS.condF (by rfl) rfl ?_
          refine CS.skip ?_
          refine blockC_n ?_
          refine thenC_n ?_
          refine CS.region ?_
          refine RS.q rfl (QO.add (by rfl) (by rfl) (by omega) (by omega)) ?_
          refine RS.q rfl (QO.move) ?_
          refine RS.nil ?_
          refine loopQ_n (by intro t ht; repeat (first | with_reducible exact rfl | exact frame_puts ht (frame_mix ht) _ rfl | (refine frame_put rfl ht ?_) | (refine frame_puts ht ?_ _ rfl) | exact frame_mix ht | (refine frame_mix2 rfl ht ?_) | exact rfl)) ?_
          exact ⟨k + 1, ⟨by omega, fun j hj => by
              by_cases e : j = k
              · subst e; exact nc_yes (by omega)
              · exact hall j (by omega)⟩, by omega, (by repeat (first | exact kn_nil | refine kn_cons (by rfl) ?_)), (by repeat (first | exact List.Sublist.refl _ | exact List.nil_sublist _ | refine List.Sublist.cons_cons _ ?_ | refine List.Sublist.cons _ ?_ | exact Sbp.refl | exact Sbp.nil | refine Sbp.cons (by repeat (first | exact Rem.head | apply Rem.tail)) ?_ | exact Sbp.app | refine Sbp.skip ?_))⟩
        have hb28p := of_decide_eq_false hb28
        refine RS.off (dj := 42) rfl (.inl (congrArg Value.bool hb28)) (fun _ => rfl) rfl ?_
        refine RS.off (dj := 42) rfl (.inl (congrArg Value.bool hb28)) (fun _ => rfl) rfl ?_
        refine RS.q rfl (QO.pickF (by rfl) hb28 (by rfl)) ?_
        refine RS.q rfl (QO.move) ?_
        refine RS.off (dj := 46) rfl (.inl (congrArg Value.bool rfl)) (fun _ => rfl) rfl ?_
        refine RS.off (dj := 46) rfl (.inl (congrArg Value.bool rfl)) (fun _ => rfl) rfl ?_
        refine RS.q rfl (QO.pickF (by rfl) rfl (by rfl)) ?_
        refine RS.q rfl (QO.move) ?_
        refine RS.off (dj := 50) rfl (.inl (congrArg Value.bool rfl)) (fun _ => rfl) rfl ?_
        refine RS.off (dj := 50) rfl (.inl (congrArg Value.bool rfl)) (fun _ => rfl) rfl ?_
        refine RS.q rfl (QO.pickF (by rfl) rfl (by rfl)) ?_
        refine RS.nil ?_
        refine thenC_n ?_
        refine CS.condF (by rfl) rfl ?_
        refine CS.skip ?_
        refine blockC_n ?_
        refine thenC_n ?_
        refine CS.region ?_
        refine RS.q rfl (QO.add (by rfl) (by rfl) (by omega) (by omega)) ?_
        refine RS.q rfl (QO.move) ?_
        refine RS.nil ?_
        refine loopQ_n (by intro t ht; repeat (first | with_reducible exact rfl | exact frame_puts ht (frame_mix ht) _ rfl | (refine frame_put rfl ht ?_) | (refine frame_puts ht ?_ _ rfl) | exact frame_mix ht | (refine frame_mix2 rfl ht ?_) | exact rfl)) ?_
        exact ⟨k + 1, ⟨by omega, fun j hj => by
            by_cases e : j = k
            · subst e; exact nc_yes (by omega)
            · exact hall j (by omega)⟩, by omega, (by repeat (first | exact kn_nil | refine kn_cons (by rfl) ?_)), (by repeat (first | exact List.Sublist.refl _ | exact List.nil_sublist _ | refine List.Sublist.cons_cons _ ?_ | refine List.Sublist.cons _ ?_ | exact Sbp.refl | exact Sbp.nil | refine Sbp.cons (by repeat (first | exact Rem.head | apply Rem.tail)) ?_ | exact Sbp.app | refine Sbp.skip ?_))⟩
      have hb23p := of_decide_eq_false hb23
      refine RS.on (dj := 29) rfl (congrArg Value.bool hb23) ?_
      refine RS.q rfl (QO.move) ?_
      refine RS.on (dj := 29) rfl (congrArg Value.bool hb23) ?_
      refine RS.q rfl (QO.gtr (by rfl) (by rfl)) ?_
      refine RS.on (dj := 26) rfl (congrArg Value.bool hb22) ?_
      refine RS.q rfl (QO.pickF (by rfl) hb23 (by rfl)) ?_
      refine RS.q rfl (QO.pickT (by rfl) hb22 (by rfl)) ?_
      refine RS.q rfl (QO.move) ?_
      refine RS.split (dj := 34) (by rfl) (fun hb32 => ?_) (fun hb32 => ?_)
      · have hb32p := of_decide_eq_true hb32
        refine RS.on (dj := 34) rfl (congrArg Value.bool hb32) ?_
        refine RS.q rfl (QO.move) ?_
        refine RS.on (dj := 34) rfl (congrArg Value.bool hb32) ?_
        refine RS.q rfl (QO.lss (by rfl) (by rfl)) ?_
        refine RS.on (dj := 34) rfl (congrArg Value.bool hb32) ?_
        refine RS.q rfl (QO.move) ?_
        refine RS.split (dj := 37) (by rfl) (fun hb33 => ?_) (fun hb33 => ?_)
        · have hb33p := of_decide_eq_true hb33
          refine RS.off (dj := 37) rfl (.inl (congrArg Value.bool hb33)) (fun _ => rfl) rfl ?_
          refine RS.off (dj := 37) rfl (.inl (congrArg Value.bool hb33)) (fun _ => rfl) rfl ?_
          refine RS.on (dj := 34) rfl (congrArg Value.bool hb32) ?_
          refine RS.q rfl (QO.pickT (by rfl) hb33 (by rfl)) ?_
          refine RS.q rfl (QO.pickT (by rfl) hb32 (by rfl)) ?_
          refine RS.q rfl (QO.move) ?_
          refine RS.on (dj := 42) rfl (congrArg Value.bool rfl) ?_
          refine RS.q rfl (QO.move) ?_
          refine RS.on (dj := 42) rfl (congrArg Value.bool rfl) ?_
          refine RS.q rfl (QO.neq (by rfl) (by rfl)) ?_
          refine RS.q rfl (QO.pickT (by rfl) rfl (by rfl)) ?_
          refine RS.q rfl (QO.move) ?_
          refine RS.split (dj := 46) (by rfl) (fun hb34 => ?_) (fun hb34 => ?_)
          · have hb34p := bne_iff_ne.1 hb34
            refine RS.on (dj := 46) rfl (congrArg Value.bool hb34) ?_
            refine RS.q rfl (QO.move) ?_
            refine RS.on (dj := 46) rfl (congrArg Value.bool hb34) ?_
            refine RS.q rfl (QO.neq (by rfl) (by rfl)) ?_
            refine RS.q rfl (QO.pickT (by rfl) hb34 (by rfl)) ?_
            refine RS.q rfl (QO.move) ?_
            refine RS.split (dj := 50) (by rfl) (fun hb35 => ?_) (fun hb35 => ?_)
            · have hb35p := bne_iff_ne.1 hb35
              refine RS.on (dj := 50) rfl (congrArg Value.bool hb35) ?_
              refine RS.q rfl (QO.move) ?_
              refine RS.on (dj := 50) rfl (congrArg Value.bool hb35) ?_
              refine RS.q rfl (QO.neq (by rfl) (by rfl)) ?_
              refine RS.q rfl (QO.pickT (by rfl) hb35 (by rfl)) ?_
              refine RS.nil ?_
              refine thenC_n ?_
              refine CS.cond (by rfl) (fun hb36 => ?_) (fun hb36 => ?_)
              · have hb36p := bne_iff_ne.1 hb36
                refine CS.seq ?_
                refine CS.region ?_
                refine RS.q rfl (QO.assign) ?_
                refine RS.nil ?_
                refine thenC_n ?_
                refine CS.ret ?_
                refine blockC_r ?_
                refine thenC_r ?_
                refine loopQ_r ?_
                refine blockC_r ?_
                refine thenC_r ?_
                refine retQ.mk (H' := []) (.inr rfl) (RVs.tmp (by rfl) RVs.nil) (List.nil_sublist _) ?_
                exact ⟨congrArg Value.bool (by first | exact nameB_6 (by assumption) | exact nameB_7 (by assumption) | exact nameB_4 (k := k) (by omega) (nc_no (by omega)) | exact nameB_5 (by assumption) (by assumption) (fun j hj => hall j (by omega))), rfl⟩
              have hb36p := of_bne_false hb36
              refine CS.skip ?_
              refine blockC_n ?_
              refine thenC_n ?_
              refine CS.region ?_
              refine RS.q rfl (QO.add (by rfl) (by rfl) (by omega) (by omega)) ?_
              refine RS.q rfl (QO.move) ?_
              refine RS.nil ?_
              refine loopQ_n (by intro t ht; repeat (first | with_reducible exact rfl | exact frame_puts ht (frame_mix ht) _ rfl | (refine frame_put rfl ht ?_) | (refine frame_puts ht ?_ _ rfl) | exact frame_mix ht | (refine frame_mix2 rfl ht ?_) | exact rfl)) ?_
              exact ⟨k + 1, ⟨by omega, fun j hj => by
                  by_cases e : j = k
                  · subst e; exact nc_yes (by omega)
                  · exact hall j (by omega)⟩, by omega, (by repeat (first | exact kn_nil | refine kn_cons (by rfl) ?_)), (by repeat (first | exact List.Sublist.refl _ | exact List.nil_sublist _ | refine List.Sublist.cons_cons _ ?_ | refine List.Sublist.cons _ ?_ | exact Sbp.refl | exact Sbp.nil | refine Sbp.cons (by repeat (first | exact Rem.head | apply Rem.tail)) ?_ | exact Sbp.app | refine Sbp.skip ?_))⟩
            have hb35p := of_bne_false hb35
            refine RS.off (dj := 50) rfl (.inl (congrArg Value.bool hb35)) (fun _ => rfl) rfl ?_
            refine RS.off (dj := 50) rfl (.inl (congrArg Value.bool hb35)) (fun _ => rfl) rfl ?_
            refine RS.q rfl (QO.pickF (by rfl) hb35 (by rfl)) ?_
            refine RS.nil ?_
            refine thenC_n ?_
            refine CS.condF (by rfl) rfl ?_
            refine CS.skip ?_
            refine blockC_n ?_
            refine thenC_n ?_
            refine CS.region ?_
            refine RS.q rfl (QO.add (by rfl) (by rfl) (by omega) (by omega)) ?_
            refine RS.q rfl (QO.move) ?_
            refine RS.nil ?_
            refine loopQ_n (by intro t ht; repeat (first | with_reducible exact rfl | exact frame_puts ht (frame_mix ht) _ rfl | (refine frame_put rfl ht ?_) | (refine frame_puts ht ?_ _ rfl) | exact frame_mix ht | (refine frame_mix2 rfl ht ?_) | exact rfl)) ?_
            exact ⟨k + 1, ⟨by omega, fun j hj => by
                by_cases e : j = k
                · subst e; exact nc_yes (by omega)
                · exact hall j (by omega)⟩, by omega, (by repeat (first | exact kn_nil | refine kn_cons (by rfl) ?_)), (by repeat (first | exact List.Sublist.refl _ | exact List.nil_sublist _ | refine List.Sublist.cons_cons _ ?_ | refine List.Sublist.cons _ ?_ | exact Sbp.refl | exact Sbp.nil | refine Sbp.cons (by repeat (first | exact Rem.head | apply Rem.tail)) ?_ | exact Sbp.app | refine Sbp.skip ?_))⟩
          have hb34p := of_bne_false hb34
          refine RS.off (dj := 46) rfl (.inl (congrArg Value.bool hb34)) (fun _ => rfl) rfl ?_
          refine RS.off (dj := 46) rfl (.inl (congrArg Value.bool hb34)) (fun _ => rfl) rfl ?_
          refine RS.q rfl (QO.pickF (by rfl) hb34 (by rfl)) ?_
          refine RS.q rfl (QO.move) ?_
          refine RS.off (dj := 50) rfl (.inl (congrArg Value.bool rfl)) (fun _ => rfl) rfl ?_
          refine RS.off (dj := 50) rfl (.inl (congrArg Value.bool rfl)) (fun _ => rfl) rfl ?_
          refine RS.q rfl (QO.pickF (by rfl) rfl (by rfl)) ?_
          refine RS.nil ?_
          refine thenC_n ?_
          refine CS.condF (by rfl) rfl ?_
          refine CS.skip ?_
          refine blockC_n ?_
          refine thenC_n ?_
          refine CS.region ?_
          refine RS.q rfl (QO.add (by rfl) (by rfl) (by omega) (by omega)) ?_
          refine RS.q rfl (QO.move) ?_
          refine RS.nil ?_
          refine loopQ_n (by intro t ht; repeat (first | with_reducible exact rfl | exact frame_puts ht (frame_mix ht) _ rfl | (refine frame_put rfl ht ?_) | (refine frame_puts ht ?_ _ rfl) | exact frame_mix ht | (refine frame_mix2 rfl ht ?_) | exact rfl)) ?_
          exact ⟨k + 1, ⟨by omega, fun j hj => by
              by_cases e : j = k
              · subst e; exact nc_yes (by omega)
              · exact hall j (by omega)⟩, by omega, (by repeat (first | exact kn_nil | refine kn_cons (by rfl) ?_)), (by repeat (first | exact List.Sublist.refl _ | exact List.nil_sublist _ | refine List.Sublist.cons_cons _ ?_ | refine List.Sublist.cons _ ?_ | exact Sbp.refl | exact Sbp.nil | refine Sbp.cons (by repeat (first | exact Rem.head | apply Rem.tail)) ?_ | exact Sbp.app | refine Sbp.skip ?_))⟩
        have hb33p := of_decide_eq_false hb33
        refine RS.on (dj := 37) rfl (congrArg Value.bool hb33) ?_
        refine RS.q rfl (QO.move) ?_
        refine RS.on (dj := 37) rfl (congrArg Value.bool hb33) ?_
        refine RS.q rfl (QO.gtr (by rfl) (by rfl)) ?_
        refine RS.on (dj := 34) rfl (congrArg Value.bool hb32) ?_
        refine RS.q rfl (QO.pickF (by rfl) hb33 (by rfl)) ?_
        refine RS.q rfl (QO.pickT (by rfl) hb32 (by rfl)) ?_
        refine RS.q rfl (QO.move) ?_
        refine RS.split (dj := 42) (by rfl) (fun hb37 => ?_) (fun hb37 => ?_)
        · have hb37p := of_decide_eq_true hb37
          refine RS.on (dj := 42) rfl (congrArg Value.bool hb37) ?_
          refine RS.q rfl (QO.move) ?_
          refine RS.on (dj := 42) rfl (congrArg Value.bool hb37) ?_
          refine RS.q rfl (QO.neq (by rfl) (by rfl)) ?_
          refine RS.q rfl (QO.pickT (by rfl) hb37 (by rfl)) ?_
          refine RS.q rfl (QO.move) ?_
          refine RS.split (dj := 46) (by rfl) (fun hb38 => ?_) (fun hb38 => ?_)
          · have hb38p := bne_iff_ne.1 hb38
            refine RS.on (dj := 46) rfl (congrArg Value.bool hb38) ?_
            refine RS.q rfl (QO.move) ?_
            refine RS.on (dj := 46) rfl (congrArg Value.bool hb38) ?_
            refine RS.q rfl (QO.neq (by rfl) (by rfl)) ?_
            refine RS.q rfl (QO.pickT (by rfl) hb38 (by rfl)) ?_
            refine RS.q rfl (QO.move) ?_
            refine RS.split (dj := 50) (by rfl) (fun hb39 => ?_) (fun hb39 => ?_)
            · have hb39p := bne_iff_ne.1 hb39
              refine RS.on (dj := 50) rfl (congrArg Value.bool hb39) ?_
              refine RS.q rfl (QO.move) ?_
              refine RS.on (dj := 50) rfl (congrArg Value.bool hb39) ?_
              refine RS.q rfl (QO.neq (by rfl) (by rfl)) ?_
              refine RS.q rfl (QO.pickT (by rfl) hb39 (by rfl)) ?_
              refine RS.nil ?_
              refine thenC_n ?_
              refine CS.cond (by rfl) (fun hb40 => ?_) (fun hb40 => ?_)
              · have hb40p := bne_iff_ne.1 hb40
                refine CS.seq ?_
                refine CS.region ?_
                refine RS.q rfl (QO.assign) ?_
                refine RS.nil ?_
                refine thenC_n ?_
                refine CS.ret ?_
                refine blockC_r ?_
                refine thenC_r ?_
                refine loopQ_r ?_
                refine blockC_r ?_
                refine thenC_r ?_
                refine retQ.mk (H' := []) (.inr rfl) (RVs.tmp (by rfl) RVs.nil) (List.nil_sublist _) ?_
                exact ⟨congrArg Value.bool (by first | exact nameB_6 (by assumption) | exact nameB_7 (by assumption) | exact nameB_4 (k := k) (by omega) (nc_no (by omega)) | exact nameB_5 (by assumption) (by assumption) (fun j hj => hall j (by omega))), rfl⟩
              have hb40p := of_bne_false hb40
              refine CS.skip ?_
              refine blockC_n ?_
              refine thenC_n ?_
              refine CS.region ?_
              refine RS.q rfl (QO.add (by rfl) (by rfl) (by omega) (by omega)) ?_
              refine RS.q rfl (QO.move) ?_
              refine RS.nil ?_
              refine loopQ_n (by intro t ht; repeat (first | with_reducible exact rfl | exact frame_puts ht (frame_mix ht) _ rfl | (refine frame_put rfl ht ?_) | (refine frame_puts ht ?_ _ rfl) | exact frame_mix ht | (refine frame_mix2 rfl ht ?_) | exact rfl)) ?_
              exact ⟨k + 1, ⟨by omega, fun j hj => by
                  by_cases e : j = k
                  · subst e; exact nc_yes (by omega)
                  · exact hall j (by omega)⟩, by omega, (by repeat (first | exact kn_nil | refine kn_cons (by rfl) ?_)), (by repeat (first | exact List.Sublist.refl _ | exact List.nil_sublist _ | refine List.Sublist.cons_cons _ ?_ | refine List.Sublist.cons _ ?_ | exact Sbp.refl | exact Sbp.nil | refine Sbp.cons (by repeat (first | exact Rem.head | apply Rem.tail)) ?_ | exact Sbp.app | refine Sbp.skip ?_))⟩
            have hb39p := of_bne_false hb39
            refine RS.off (dj := 50) rfl (.inl (congrArg Value.bool hb39)) (fun _ => rfl) rfl ?_
            refine RS.off (dj := 50) rfl (.inl (congrArg Value.bool hb39)) (fun _ => rfl) rfl ?_
            refine RS.q rfl (QO.pickF (by rfl) hb39 (by rfl)) ?_
            refine RS.nil ?_
            refine thenC_n ?_
            refine CS.condF (by rfl) rfl ?_
            refine CS.skip ?_
            refine blockC_n ?_
            refine thenC_n ?_
            refine CS.region ?_
            refine RS.q rfl (QO.add (by rfl) (by rfl) (by omega) (by omega)) ?_
            refine RS.q rfl (QO.move) ?_
            refine RS.nil ?_
            refine loopQ_n (by intro t ht; repeat (first | with_reducible exact rfl | exact frame_puts ht (frame_mix ht) _ rfl | (refine frame_put rfl ht ?_) | (refine frame_puts ht ?_ _ rfl) | exact frame_mix ht | (refine frame_mix2 rfl ht ?_) | exact rfl)) ?_
            exact ⟨k + 1, ⟨by omega, fun j hj => by
                by_cases e : j = k
                · subst e; exact nc_yes (by omega)
                · exact hall j (by omega)⟩, by omega, (by repeat (first | exact kn_nil | refine kn_cons (by rfl) ?_)), (by repeat (first | exact List.Sublist.refl _ | exact List.nil_sublist _ | refine List.Sublist.cons_cons _ ?_ | refine List.Sublist.cons _ ?_ | exact Sbp.refl | exact Sbp.nil | refine Sbp.cons (by repeat (first | exact Rem.head | apply Rem.tail)) ?_ | exact Sbp.app | refine Sbp.skip ?_))⟩
          have hb38p := of_bne_false hb38
          refine RS.off (dj := 46) rfl (.inl (congrArg Value.bool hb38)) (fun _ => rfl) rfl ?_
          refine RS.off (dj := 46) rfl (.inl (congrArg Value.bool hb38)) (fun _ => rfl) rfl ?_
          refine RS.q rfl (QO.pickF (by rfl) hb38 (by rfl)) ?_
          refine RS.q rfl (QO.move) ?_
          refine RS.off (dj := 50) rfl (.inl (congrArg Value.bool rfl)) (fun _ => rfl) rfl ?_
          refine RS.off (dj := 50) rfl (.inl (congrArg Value.bool rfl)) (fun _ => rfl) rfl ?_
          refine RS.q rfl (QO.pickF (by rfl) rfl (by rfl)) ?_
          refine RS.nil ?_
          refine thenC_n ?_
          refine CS.condF (by rfl) rfl ?_
          refine CS.skip ?_
          refine blockC_n ?_
          refine thenC_n ?_
          refine CS.region ?_
          refine RS.q rfl (QO.add (by rfl) (by rfl) (by omega) (by omega)) ?_
          refine RS.q rfl (QO.move) ?_
          refine RS.nil ?_
          refine loopQ_n (by intro t ht; repeat (first | with_reducible exact rfl | exact frame_puts ht (frame_mix ht) _ rfl | (refine frame_put rfl ht ?_) | (refine frame_puts ht ?_ _ rfl) | exact frame_mix ht | (refine frame_mix2 rfl ht ?_) | exact rfl)) ?_
          exact ⟨k + 1, ⟨by omega, fun j hj => by
              by_cases e : j = k
              · subst e; exact nc_yes (by omega)
              · exact hall j (by omega)⟩, by omega, (by repeat (first | exact kn_nil | refine kn_cons (by rfl) ?_)), (by repeat (first | exact List.Sublist.refl _ | exact List.nil_sublist _ | refine List.Sublist.cons_cons _ ?_ | refine List.Sublist.cons _ ?_ | exact Sbp.refl | exact Sbp.nil | refine Sbp.cons (by repeat (first | exact Rem.head | apply Rem.tail)) ?_ | exact Sbp.app | refine Sbp.skip ?_))⟩
        have hb37p := of_decide_eq_false hb37
        refine RS.off (dj := 42) rfl (.inl (congrArg Value.bool hb37)) (fun _ => rfl) rfl ?_
        refine RS.off (dj := 42) rfl (.inl (congrArg Value.bool hb37)) (fun _ => rfl) rfl ?_
        refine RS.q rfl (QO.pickF (by rfl) hb37 (by rfl)) ?_
        refine RS.q rfl (QO.move) ?_
        refine RS.off (dj := 46) rfl (.inl (congrArg Value.bool rfl)) (fun _ => rfl) rfl ?_
        refine RS.off (dj := 46) rfl (.inl (congrArg Value.bool rfl)) (fun _ => rfl) rfl ?_
        refine RS.q rfl (QO.pickF (by rfl) rfl (by rfl)) ?_
        refine RS.q rfl (QO.move) ?_
        refine RS.off (dj := 50) rfl (.inl (congrArg Value.bool rfl)) (fun _ => rfl) rfl ?_
        refine RS.off (dj := 50) rfl (.inl (congrArg Value.bool rfl)) (fun _ => rfl) rfl ?_
        refine RS.q rfl (QO.pickF (by rfl) rfl (by rfl)) ?_
        refine RS.nil ?_
        refine thenC_n ?_
        refine CS.condF (by rfl) rfl ?_
        refine CS.skip ?_
        refine blockC_n ?_
        refine thenC_n ?_
        refine CS.region ?_
        refine RS.q rfl (QO.add (by rfl) (by rfl) (by omega) (by omega)) ?_
        refine RS.q rfl (QO.move) ?_
        refine RS.nil ?_
        refine loopQ_n (by intro t ht; repeat (first | with_reducible exact rfl | exact frame_puts ht (frame_mix ht) _ rfl | (refine frame_put rfl ht ?_) | (refine frame_puts ht ?_ _ rfl) | exact frame_mix ht | (refine frame_mix2 rfl ht ?_) | exact rfl)) ?_
        exact ⟨k + 1, ⟨by omega, fun j hj => by
            by_cases e : j = k
            · subst e; exact nc_yes (by omega)
            · exact hall j (by omega)⟩, by omega, (by repeat (first | exact kn_nil | refine kn_cons (by rfl) ?_)), (by repeat (first | exact List.Sublist.refl _ | exact List.nil_sublist _ | refine List.Sublist.cons_cons _ ?_ | refine List.Sublist.cons _ ?_ | exact Sbp.refl | exact Sbp.nil | refine Sbp.cons (by repeat (first | exact Rem.head | apply Rem.tail)) ?_ | exact Sbp.app | refine Sbp.skip ?_))⟩
      have hb32p := of_decide_eq_false hb32
      refine RS.off (dj := 34) rfl (.inl (congrArg Value.bool hb32)) (fun _ => rfl) rfl ?_
      refine RS.off (dj := 34) rfl (.inl (congrArg Value.bool hb32)) (fun _ => rfl) rfl ?_
      refine RS.off (dj := 34) rfl (.inl (congrArg Value.bool hb32)) (fun _ => rfl) rfl ?_
      refine RS.off (dj := 37) (c := true) rfl (.inr rfl) (fun h => by cases h) rfl ?_
      refine RS.off (dj := 37) (c := true) rfl (.inr rfl) (fun h => by cases h) rfl ?_
      refine RS.off (dj := 34) rfl (.inl (congrArg Value.bool hb32)) (fun _ => rfl) rfl ?_
      refine RS.q rfl (QO.pickF (by rfl) hb32 (by rfl)) ?_
      refine RS.q rfl (QO.move) ?_
      refine RS.off (dj := 42) rfl (.inl (congrArg Value.bool rfl)) (fun _ => rfl) rfl ?_
      refine RS.off (dj := 42) rfl (.inl (congrArg Value.bool rfl)) (fun _ => rfl) rfl ?_
      refine RS.q rfl (QO.pickF (by rfl) rfl (by rfl)) ?_
      refine RS.q rfl (QO.move) ?_
      refine RS.off (dj := 46) rfl (.inl (congrArg Value.bool rfl)) (fun _ => rfl) rfl ?_
      refine RS.off (dj := 46) rfl (.inl (congrArg Value.bool rfl)) (fun _ => rfl) rfl ?_
      refine RS.q rfl (QO.pickF (by rfl) rfl (by rfl)) ?_
      refine RS.q rfl (QO.move) ?_
      refine RS.off (dj := 50) rfl (.inl (congrArg Value.bool rfl)) (fun _ => rfl) rfl ?_
      refine RS.off (dj := 50) rfl (.inl (congrArg Value.bool rfl)) (fun _ => rfl) rfl ?_
      refine RS.q rfl (QO.pickF (by rfl) rfl (by rfl)) ?_
      refine RS.nil ?_
      refine thenC_n ?_
      refine CS.condF (by rfl) rfl ?_
      refine CS.skip ?_
      refine blockC_n ?_
      refine thenC_n ?_
      refine CS.region ?_
      refine RS.q rfl (QO.add (by rfl) (by rfl) (by omega) (by omega)) ?_
      refine RS.q rfl (QO.move) ?_
      refine RS.nil ?_
      refine loopQ_n (by intro t ht; repeat (first | with_reducible exact rfl | exact frame_puts ht (frame_mix ht) _ rfl | (refine frame_put rfl ht ?_) | (refine frame_puts ht ?_ _ rfl) | exact frame_mix ht | (refine frame_mix2 rfl ht ?_) | exact rfl)) ?_
      exact ⟨k + 1, ⟨by omega, fun j hj => by
          by_cases e : j = k
          · subst e; exact nc_yes (by omega)
          · exact hall j (by omega)⟩, by omega, (by repeat (first | exact kn_nil | refine kn_cons (by rfl) ?_)), (by repeat (first | exact List.Sublist.refl _ | exact List.nil_sublist _ | refine List.Sublist.cons_cons _ ?_ | refine List.Sublist.cons _ ?_ | exact Sbp.refl | exact Sbp.nil | refine Sbp.cons (by repeat (first | exact Rem.head | apply Rem.tail)) ?_ | exact Sbp.app | refine Sbp.skip ?_))⟩
    have hb22p := of_decide_eq_false hb22
    refine RS.off (dj := 26) rfl (.inl (congrArg Value.bool hb22)) (fun _ => rfl) rfl ?_
    refine RS.off (dj := 26) rfl (.inl (congrArg Value.bool hb22)) (fun _ => rfl) rfl ?_
    refine RS.off (dj := 26) rfl (.inl (congrArg Value.bool hb22)) (fun _ => rfl) rfl ?_
    refine RS.off (dj := 29) (c := true) rfl (.inr rfl) (fun h => by cases h) rfl ?_
    refine RS.off (dj := 29) (c := true) rfl (.inr rfl) (fun h => by cases h) rfl ?_
    refine RS.off (dj := 26) rfl (.inl (congrArg Value.bool hb22)) (fun _ => rfl) rfl ?_
    refine RS.q rfl (QO.pickF (by rfl) hb22 (by rfl)) ?_
    refine RS.q rfl (QO.move) ?_
    refine RS.off (dj := 34) rfl (.inl (congrArg Value.bool rfl)) (fun _ => rfl) rfl ?_
    refine RS.off (dj := 34) rfl (.inl (congrArg Value.bool rfl)) (fun _ => rfl) rfl ?_
    refine RS.off (dj := 34) rfl (.inl (congrArg Value.bool rfl)) (fun _ => rfl) rfl ?_
    refine RS.off (dj := 37) (c := true) rfl (.inr rfl) (fun h => by cases h) rfl ?_
    refine RS.off (dj := 37) (c := true) rfl (.inr rfl) (fun h => by cases h) rfl ?_
    refine RS.off (dj := 34) rfl (.inl (congrArg Value.bool rfl)) (fun _ => rfl) rfl ?_
    refine RS.q rfl (QO.pickF (by rfl) rfl (by rfl)) ?_
    refine RS.q rfl (QO.move) ?_
    refine RS.off (dj := 42) rfl (.inl (congrArg Value.bool rfl)) (fun _ => rfl) rfl ?_
    refine RS.off (dj := 42) rfl (.inl (congrArg Value.bool rfl)) (fun _ => rfl) rfl ?_
    refine RS.q rfl (QO.pickF (by rfl) rfl (by rfl)) ?_
    refine RS.q rfl (QO.move) ?_
    refine RS.off (dj := 46) rfl (.inl (congrArg Value.bool rfl)) (fun _ => rfl) rfl ?_
    refine RS.off (dj := 46) rfl (.inl (congrArg Value.bool rfl)) (fun _ => rfl) rfl ?_
    refine RS.q rfl (QO.pickF (by rfl) rfl (by rfl)) ?_
    refine RS.q rfl (QO.move) ?_
    refine RS.off (dj := 50) rfl (.inl (congrArg Value.bool rfl)) (fun _ => rfl) rfl ?_
    refine RS.off (dj := 50) rfl (.inl (congrArg Value.bool rfl)) (fun _ => rfl) rfl ?_
    refine RS.q rfl (QO.pickF (by rfl) rfl (by rfl)) ?_
    refine RS.nil ?_
    refine thenC_n ?_
    refine CS.condF (by rfl) rfl ?_
    refine CS.skip ?_
    refine blockC_n ?_
    refine thenC_n ?_
    refine CS.region ?_
    refine RS.q rfl (QO.add (by rfl) (by rfl) (by omega) (by omega)) ?_
    refine RS.q rfl (QO.move) ?_
    refine RS.nil ?_
    refine loopQ_n (by intro t ht; repeat (first | with_reducible exact rfl | exact frame_puts ht (frame_mix ht) _ rfl | (refine frame_put rfl ht ?_) | (refine frame_puts ht ?_ _ rfl) | exact frame_mix ht | (refine frame_mix2 rfl ht ?_) | exact rfl)) ?_
    exact ⟨k + 1, ⟨by omega, fun j hj => by
        by_cases e : j = k
        · subst e; exact nc_yes (by omega)
        · exact hall j (by omega)⟩, by omega, (by repeat (first | exact kn_nil | refine kn_cons (by rfl) ?_)), (by repeat (first | exact List.Sublist.refl _ | exact List.nil_sublist _ | refine List.Sublist.cons_cons _ ?_ | refine List.Sublist.cons _ ?_ | exact Sbp.refl | exact Sbp.nil | refine Sbp.cons (by repeat (first | exact Rem.head | apply Rem.tail)) ?_ | exact Sbp.app | refine Sbp.skip ?_))⟩
  have hb2p := of_decide_eq_false hb2
  refine CS.exit ?_
  refine thenC_x ?_
  refine loopQ_x ?_
  refine blockC_x ?_
  refine thenC_n ?_
  refine CS.seq ?_
  refine CS.region ?_
  refine RS.q rfl (QO.assign) ?_
  refine RS.nil ?_
  refine thenC_n ?_
  refine CS.ret ?_
  refine retQ.mk (H' := []) (.inr rfl) (RVs.tmp (by rfl) RVs.nil) (List.nil_sublist _) ?_
  exact ⟨congrArg Value.bool (by first | exact nameB_6 (by assumption) | exact nameB_7 (by assumption) | exact nameB_4 (k := k) (by omega) (nc_no (by omega)) | exact nameB_5 (by assumption) (by assumption) (fun j hj => hall j (by omega))), rfl⟩

end Go.Proofs.YtapcgokcfmklbaaDoor
