/-
  Part 3 of what the proof leans on (S1, S2, Ex1, Str, Eq2). Conditions: as each theorem says.
-/
import Derived.Test.YtapcgokcfmklbaaY2
import Derived.Lib.AppendStr
import Derived.Lib.UnsafeStr
import Derived.Laws.Strings
namespace Go.Proofs.Ytapcgokcfmklbaa
open Go Go.Proofs Go.RowKit

theorem ok148 : callOK Try.prog 148 = true := by kernel_rfl
theorem ok166 : callOK Try.prog 166 = true := by kernel_rfl
theorem ok179 : callOK Try.prog 179 = true := by kernel_rfl

def fl (d : Nat → Nat) (n : Nat) (junk : List Value) : List Value := (lst d n).map flt ++ junk
theorem fl_at {d : Nat → Nat} {n i : Nat} {junk : List Value} (h : i < n) : (fl d n junk)[i]? = some (flt (d i)) := by
  unfold fl
  rw [List.getElem?_append_left (by rw [List.length_map, lst_len]; exact h), List.getElem?_map, lst_at d h]
  rfl
theorem fl_set {d : Nat → Nat} {n i v : Nat} {junk : List Value} (h : i < n) : (fl d n junk).set i (flt v) = fl (updD d i v) n junk := by
  unfold fl
  rw [List.set_append, if_pos (by rw [List.length_map, lst_len]; exact h), ← List.map_set, lst_set d v h]
theorem fl_len (d : Nat → Nat) (n : Nat) (junk : List Value) : (fl d n junk).length = n + junk.length := by
  unfold fl; rw [List.length_append, List.length_map, lst_len]
theorem Mv.lt32 {n a b : Nat} {d d' : Nat → Nat} (h : Mv n a b d d') (hp : ∀ i, d i < 4294967296) : ∀ i, d' i < 4294967296 := fun i => by
  by_cases hi : a ≤ i ∧ i < b
  · exact h.all (P := fun x => x < 4294967296) (fun j _ _ => hp j) i hi.1 hi.2
  · rw [h.1 i (by omega)]; exact hp i
theorem half_nat (x : Nat) : Int.fdiv ((x : Nat) : Int) (2 ^ (min (1 : Int).toNat 64)) = ((x / 2 : Nat) : Int) := by
  rw [show (2 : Int) ^ (min (1 : Int).toNat 64) = ((2 : Nat) : Int) from rfl, Int.fdiv_eq_ediv_of_nonneg _ (Int.natCast_nonneg _)]
  norm_cast
theorem u64_id {x : Nat} (h : x < 4611686018427387904) : IntKind.u64.wrap ((x : Nat) : Int) = ((x : Nat) : Int) := by rw [IntKind.wrap_u64]; omega
theorem i64_id {x : Nat} (h : x < 4611686018427387904) : IntKind.i64.wrap ((x : Nat) : Int) = ((x : Nat) : Int) := w64 (by omega) (by omega)
theorem QO.shr2 {P : Program} {W : World} {H : HL} {e : Env} {x y : Operand} {t t' ty : TypeId} {k k' : IntKind} {i j : Int} (hx : ev e x = .int k i) (hy : ev e y = .int k' j) (h0 : 0 ≤ j) : QO P W H e (.binOp .shr t x y t') ty (.int k (i.fdiv (2 ^ (min j.toNat k.bits)))) := by
  refine QO.bin hx hy (fun w => ?_)
  simp only [Sem.run_bind, eqg_int, Result.andThen_ok]
  have : ¬ j < 0 := by omega
  simp [binOp, Op.shift, this]
theorem rot_dn' (d : Nat → Nat) {m q : Nat} (h1 : 1 ≤ q) (h : q ≤ m) : swD (rotD d q m (m + 1)) q (q - 1) = rotD d (q - 1) m (m + 1) := by
  obtain ⟨k, rfl⟩ : ∃ k, q = k + 1 := ⟨q - 1, by omega⟩
  exact rot_dn d m k h

set_option maxHeartbeats 4000000 in
set_option maxRecDepth 100000 in
theorem swapRange_ (g n c : Nat) (junk : List Value) (HR : HL) (W : World) (fc : FuncId) (hn : n ≤ 1000000) (a b t : Nat) (d : Nat → Nat) (h1 : a + t ≤ b) (h2 : b + t ≤ n) : FnH Try.prog 179 #[.slice (some ⟨g, 0, none⟩) n c, iv (a : Int), iv (b : Int), iv (t : Int), .func (.func fc) #[] #[]] W (⟨g, 29, fl d n junk⟩ :: HR) (fun v H => H = ⟨g, 29, fl (swR d a b t) n junk⟩ :: HR) := by
  refine FnH.intro Try.func179 rfl rfl (by rfl) ?_
  refine CS.seq ?_
  refine CS.region ?_
  refine RS.q rfl (QO.assign) ?_
  refine RS.nil ?_
  refine thenC_n ?_
  refine CS.block ?_
  refine CS.loop (X := Nat) (10 :: 11 :: 12 :: 13 :: 14 :: 15 :: 16 :: 17 :: 18 :: 19 :: 20 :: 21 :: 22 :: 23 :: 24 :: 25 :: 26 :: 27 :: 28 :: 29 :: 30 :: 31 :: 32 :: 33 :: 34 :: 35 :: 36 :: 37 :: []) (fun k => [(10, iv (k : Int))]) (fun k => ⟨g, 29, fl (swR d a b k) n junk⟩ :: HR) (fun k => k ≤ t) (fun k => t - k) 0 (Nat.zero_le _) ?_ ?_ ?_
  · exact (by repeat (first | exact kn_nil | refine kn_cons (by rfl) ?_))
  · exact (by rw [swR_0]; exact (by repeat (first | exact List.Sublist.refl _ | exact List.nil_sublist _ | refine List.Sublist.cons_cons _ ?_ | refine List.Sublist.cons _ ?_ | exact Sbp.refl | exact Sbp.nil | refine Sbp.cons (by repeat (first | exact Rem.head | apply Rem.tail)) ?_ | exact Sbp.app | refine Sbp.skip ?_ | exact List.sublist_append_left _ _ | exact List.sublist_append_right _ _)))
  · intro k gj1 hz
    refine CS.seq ?_
    refine CS.seq ?_
    refine CS.region ?_
    refine RS.q rfl (QO.move) ?_
    refine RS.q rfl (QO.move) ?_
    refine RS.q rfl (QO.lss (by rfl) (by rfl)) ?_
    refine RS.nil ?_
    refine thenC_n ?_
    refine CS.cond (by rfl) (fun hb0 => ?_) (fun hb0 => ?_)
    · have hb0p := of_decide_eq_true hb0
      refine CS.skip ?_
      refine thenC_n ?_
      refine CS.seq ?_
      refine CS.block ?_
      refine CS.draw2 [21, 23] (HT := HR) (by repeat (first | exact List.Sublist.refl _ | exact List.nil_sublist _ | refine List.Sublist.cons_cons _ ?_ | refine List.Sublist.cons _ ?_ | exact Sbp.refl | exact Sbp.nil | refine Sbp.cons (by repeat (first | exact Rem.head | apply Rem.tail)) ?_ | exact Sbp.app | refine Sbp.skip ?_ | exact List.sublist_append_left _ _ | exact List.sublist_append_right _ _)) rfl (by kernel_rfl) ?_
      refine RT2.take1 (i := 0) rfl (by kernel_rfl) rfl (QO.move) ?_
      refine RT2.take1 (i := 1) rfl (by kernel_rfl) rfl (QO.move) ?_
      refine RT2.take1 (i := 2) rfl (by kernel_rfl) rfl (QO.move) ?_
      first | (refine RT2.take1v (i := 3) rfl (by kernel_rfl) rfl (QO.add (by rfl) (by rfl) (by omega) (by omega)) (congrArg iv (show (a : Int) + (k : Int) = ((a + k : Nat) : Int) by omega)) ?_) | (refine RT2.take1v (i := 3) rfl (by kernel_rfl) rfl (QO.ibin (by rfl) (by rfl) trivial) (congrArg iv (show (a : Int) + (k : Int) = ((a + k : Nat) : Int) by omega)) ?_)
      refine RT2.take2 (i := 4) rfl (by kernel_rfl) rfl (QO.move) ?_
      refine RT2.take2 (i := 5) rfl (by kernel_rfl) rfl (QO.move) ?_
      refine RT2.take2 (i := 6) rfl (by kernel_rfl) rfl (QO.move) ?_
      first | (refine RT2.take2v (i := 7) rfl (by kernel_rfl) rfl (QO.add (by rfl) (by rfl) (by omega) (by omega)) (congrArg iv (show (b : Int) + (k : Int) = ((b + k : Nat) : Int) by omega)) ?_) | (refine RT2.take2v (i := 7) rfl (by kernel_rfl) rfl (QO.ibin (by rfl) (by rfl) trivial) (congrArg iv (show (b : Int) + (k : Int) = ((b + k : Nat) : Int) by omega)) ?_)
      refine RT2.take1 (i := 8) rfl (by kernel_rfl) rfl (QO.move) ?_
      refine RT2.take1 (i := 9) rfl (by kernel_rfl) rfl (QO.move) ?_
      refine RT2.take1 (i := 10) rfl (by kernel_rfl) rfl (QO.move) ?_
      first | (refine RT2.take1v (i := 11) rfl (by kernel_rfl) rfl (QO.add (by rfl) (by rfl) (by omega) (by omega)) (congrArg iv (show (b : Int) + (k : Int) = ((b + k : Nat) : Int) by omega)) ?_) | (refine RT2.take1v (i := 11) rfl (by kernel_rfl) rfl (QO.ibin (by rfl) (by rfl) trivial) (congrArg iv (show (b : Int) + (k : Int) = ((b + k : Nat) : Int) by omega)) ?_)
      first | (refine RT2.take1 (i := 12) rfl (by kernel_rfl) rfl (QO.idx0 Try.underlying24 ty29 (by rfl) (by rfl) (by rfl) (by omega)) ?_) | (refine RT2.take1 (i := 12) rfl (by kernel_rfl) rfl (QO.idxn Try.underlying24 ty29 (by rfl) (by rfl) (by rfl) (by omega)) ?_) | (refine RT2.take1 (i := 12) rfl (by kernel_rfl) rfl (QO.idx1 Try.underlying24 ty29 (by rfl) (by rfl) (by omega) (by omega)) ?_)
      refine RT2.take1 (i := 13) rfl (by kernel_rfl) rfl (QO.load ty29 (by rfl) (by repeat (first | exact List.Mem.head _ | refine List.Mem.tail _ ?_)) (fl_at (i := b + k) (by omega))) ?_
      refine RT2.take2 (i := 14) rfl (by kernel_rfl) rfl (QO.move) ?_
      refine RT2.take2 (i := 15) rfl (by kernel_rfl) rfl (QO.move) ?_
      refine RT2.take2 (i := 16) rfl (by kernel_rfl) rfl (QO.move) ?_
      first | (refine RT2.take2v (i := 17) rfl (by kernel_rfl) rfl (QO.add (by rfl) (by rfl) (by omega) (by omega)) (congrArg iv (show (a : Int) + (k : Int) = ((a + k : Nat) : Int) by omega)) ?_) | (refine RT2.take2v (i := 17) rfl (by kernel_rfl) rfl (QO.ibin (by rfl) (by rfl) trivial) (congrArg iv (show (a : Int) + (k : Int) = ((a + k : Nat) : Int) by omega)) ?_)
      first | (refine RT2.take2 (i := 18) rfl (by kernel_rfl) rfl (QO.idx0 Try.underlying24 ty29 (by rfl) (by rfl) (by rfl) (by omega)) ?_) | (refine RT2.take2 (i := 18) rfl (by kernel_rfl) rfl (QO.idxn Try.underlying24 ty29 (by rfl) (by rfl) (by rfl) (by omega)) ?_) | (refine RT2.take2 (i := 18) rfl (by kernel_rfl) rfl (QO.idx1 Try.underlying24 ty29 (by rfl) (by rfl) (by omega) (by omega)) ?_)
      refine RT2.take1 (i := 19) rfl (by kernel_rfl) rfl (QO.load ty29 (by rfl) (by repeat (first | exact List.Mem.head _ | refine List.Mem.tail _ ?_)) (fl_at (i := a + k) (by omega))) ?_
      first | (refine RT2.take1 (i := 20) rfl (by kernel_rfl) rfl (QO.idx0 Try.underlying24 ty29 (by rfl) (by rfl) (by rfl) (by omega)) ?_) | (refine RT2.take1 (i := 20) rfl (by kernel_rfl) rfl (QO.idxn Try.underlying24 ty29 (by rfl) (by rfl) (by rfl) (by omega)) ?_) | (refine RT2.take1 (i := 20) rfl (by kernel_rfl) rfl (QO.idx1 Try.underlying24 ty29 (by rfl) (by rfl) (by omega) (by omega)) ?_)
      refine RT2.oneX (i := 21) (by kernel_rfl) rfl (by kernel_rfl) ?_
      refine RS.store1e ty29 rfl (by rfl) (by rfl) (by rfl) (fl_set (n := n) (i := a + k) (v := swR d a b k (b + k)) (by omega)) (by repeat (first | exact Upd.head | apply Upd.tail)) (by rw [fl_len]; omega) ?_
      refine RS.nil ⟨(by repeat (first | exact List.Sublist.refl _ | exact List.nil_sublist _ | refine List.Sublist.cons_cons _ ?_ | refine List.Sublist.cons _ ?_ | exact Sbp.refl | exact Sbp.nil | refine Sbp.cons (by repeat (first | exact Rem.head | apply Rem.tail)) ?_ | exact Sbp.app | refine Sbp.skip ?_ | exact List.sublist_append_left _ _ | exact List.sublist_append_right _ _)), ?_⟩
      first | (refine RT2.take2 (i := 22) rfl (by kernel_rfl) rfl (QO.idx0 Try.underlying24 ty29 (by rfl) (by rfl) (by rfl) (by omega)) ?_) | (refine RT2.take2 (i := 22) rfl (by kernel_rfl) rfl (QO.idxn Try.underlying24 ty29 (by rfl) (by rfl) (by rfl) (by omega)) ?_) | (refine RT2.take2 (i := 22) rfl (by kernel_rfl) rfl (QO.idx1 Try.underlying24 ty29 (by rfl) (by rfl) (by omega) (by omega)) ?_)
      refine RT2.oneX (i := 23) (by kernel_rfl) rfl (by kernel_rfl) ?_
      refine RS.store1e ty29 rfl (by rfl) (by rfl) (by rfl) ((fl_set (n := n) (i := b + k) (v := swR d a b k (a + k)) (by omega)).trans (congrArg (fun q => fl q n junk) ((swD_upd _ _ _).trans (swR_succ d (by omega))))) (by repeat (first | exact Upd.head | apply Upd.tail)) (by rw [fl_len]; omega) ?_
      refine RS.nil ⟨(by repeat (first | exact List.Sublist.refl _ | exact List.nil_sublist _ | refine List.Sublist.cons_cons _ ?_ | refine List.Sublist.cons _ ?_ | exact Sbp.refl | exact Sbp.nil | refine Sbp.cons (by repeat (first | exact Rem.head | apply Rem.tail)) ?_ | exact Sbp.app | refine Sbp.skip ?_ | exact List.sublist_append_left _ _ | exact List.sublist_append_right _ _)), ?_⟩
      refine RT2.done (by kernel_rfl) ?_
      refine blockC_n ?_
      refine thenC_n ?_
      refine CS.region ?_
      refine RS.q rfl (QO.move) ?_
      first | (refine RS.q rfl (QO.add (by rfl) (by rfl) (by omega) (by omega)) ?_) | (refine RS.q rfl (QO.ibin (by rfl) (by rfl) trivial) ?_)
      refine RS.q rfl (QO.assign) ?_
      refine RS.nil ?_
      refine loopQ_n (by intro t ht; repeat (first | with_reducible exact rfl | exact frame_puts ht (frame_mix ht) _ rfl | (refine frame_put rfl ht ?_) | (refine frame_puts ht ?_ _ rfl) | exact frame_mix ht | (refine frame_mix2 rfl ht ?_) | exact rfl)) ?_
      exact ⟨k + 1, by omega, by omega, (by repeat (first | exact kn_nil | refine kn_cons (by rfl) ?_)), (by repeat (first | exact List.Sublist.refl _ | exact List.nil_sublist _ | refine List.Sublist.cons_cons _ ?_ | refine List.Sublist.cons _ ?_ | exact Sbp.refl | exact Sbp.nil | refine Sbp.cons (by repeat (first | exact Rem.head | apply Rem.tail)) ?_ | exact Sbp.app | refine Sbp.skip ?_ | exact List.sublist_append_left _ _ | exact List.sublist_append_right _ _))⟩
    · have hb0p := of_decide_eq_false hb0
      refine CS.exit ?_
      refine thenC_x ?_
      refine loopQ_x ?_
      refine blockC_x ?_
      refine retQ.mk (H' := ⟨g, 29, fl (swR d a b k) n junk⟩ :: HR) (.inl rfl) RVs.nil (by repeat (first | exact List.Sublist.refl _ | exact List.nil_sublist _ | refine List.Sublist.cons_cons _ ?_ | refine List.Sublist.cons _ ?_ | exact Sbp.refl | exact Sbp.nil | refine Sbp.cons (by repeat (first | exact Rem.head | apply Rem.tail)) ?_ | exact Sbp.app | refine Sbp.skip ?_ | exact List.sublist_append_left _ _ | exact List.sublist_append_right _ _)) ?_
      rw [show k = t by omega]

set_option maxHeartbeats 4000000 in
set_option maxRecDepth 100000 in
theorem rotate_ (g n c : Nat) (junk : List Value) (HR : HL) (W : World) (fc : FuncId) (hn : n ≤ 1000000) (a m b : Nat) (d : Nat → Nat) (h1 : a < m) (h2 : m < b) (h3 : b ≤ n) : FnH Try.prog 166 #[.slice (some ⟨g, 0, none⟩) n c, iv (a : Int), iv (m : Int), iv (b : Int), .func (.func fc) #[] #[]] W (⟨g, 29, fl d n junk⟩ :: HR) (fun v H => H = ⟨g, 29, fl (rotD d a m b) n junk⟩ :: HR) := by
  refine FnH.intro Try.func166 rfl rfl (by rfl) ?_
  refine CS.seq ?_
  refine CS.region ?_
  refine RS.q rfl (QO.move) ?_
  refine RS.q rfl (QO.move) ?_
  first | (refine RS.qv rfl (QO.sub (by rfl) (by rfl) (by omega) (by omega)) (congrArg iv (show (m : Int) - (a : Int) = ((m - a : Nat) : Int) by omega)) ?_) | (refine RS.qv rfl (QO.ibin (by rfl) (by rfl) trivial) (congrArg iv (show (m : Int) - (a : Int) = ((m - a : Nat) : Int) by omega)) ?_)
  refine RS.q rfl (QO.assign) ?_
  refine RS.nil ?_
  refine thenC_n ?_
  refine CS.seq ?_
  refine CS.region ?_
  refine RS.q rfl (QO.move) ?_
  refine RS.q rfl (QO.move) ?_
  first | (refine RS.qv rfl (QO.sub (by rfl) (by rfl) (by omega) (by omega)) (congrArg iv (show (b : Int) - (m : Int) = ((b - m : Nat) : Int) by omega)) ?_) | (refine RS.qv rfl (QO.ibin (by rfl) (by rfl) trivial) (congrArg iv (show (b : Int) - (m : Int) = ((b - m : Nat) : Int) by omega)) ?_)
  refine RS.q rfl (QO.assign) ?_
  refine RS.nil ?_
  refine thenC_n ?_
  refine CS.seq ?_
  refine CS.block ?_
  refine CS.loop (X := (Nat → Nat) × Nat × Nat) (10 :: 11 :: 18 :: 19 :: 20 :: 21 :: 22 :: 23 :: 24 :: 25 :: 26 :: 27 :: 28 :: 29 :: 30 :: 31 :: 32 :: 33 :: 34 :: 35 :: 36 :: 37 :: 38 :: 39 :: 40 :: 41 :: 42 :: 43 :: 44 :: 45 :: 46 :: 47 :: 48 :: 49 :: []) (fun z => [(10, iv (z.2.1 : Int)), (11, iv (z.2.2 : Int))]) (fun z => ⟨g, 29, fl z.1 n junk⟩ :: HR) (fun z => (1 ≤ z.2.1 ∧ z.2.1 ≤ m) ∧ (1 ≤ z.2.2 ∧ m + z.2.2 ≤ n) ∧ rotD z.1 (m - z.2.1) m (m + z.2.2) = rotD d a m b) (fun z => z.2.1 + z.2.2) (d, m - a, b - m) ⟨(by show 1 ≤ m - a ∧ m - a ≤ m; omega), (by show 1 ≤ b - m ∧ m + (b - m) ≤ n; omega), (by show rotD d (m - (m - a)) m (m + (b - m)) = _; rw [show m - (m - a) = a by omega, show m + (b - m) = b by omega])⟩ ?_ ?_ ?_
  · exact (by repeat (first | exact kn_nil | refine kn_cons (by rfl) ?_))
  · exact (by repeat (first | exact List.Sublist.refl _ | exact List.nil_sublist _ | refine List.Sublist.cons_cons _ ?_ | refine List.Sublist.cons _ ?_ | exact Sbp.refl | exact Sbp.nil | refine Sbp.cons (by repeat (first | exact Rem.head | apply Rem.tail)) ?_ | exact Sbp.app | refine Sbp.skip ?_ | exact List.sublist_append_left _ _ | exact List.sublist_append_right _ _))
  · intro z gj2 hz
    obtain ⟨D, i, j⟩ := z
    obtain ⟨hi, hj, hD⟩ := hz
    replace hi : 1 ≤ i ∧ i ≤ m := hi
    replace hj : 1 ≤ j ∧ m + j ≤ n := hj
    replace hD : rotD D (m - i) m (m + j) = rotD d a m b := hD
    show CS _ _ _ _ _ (puts (mix _ _ _) [(10, iv (i : Int)), (11, iv (j : Int))]) (⟨g, 29, fl D n junk⟩ :: HR)
    refine CS.seq ?_
    refine CS.seq ?_
    refine CS.region ?_
    refine RS.q rfl (QO.move) ?_
    refine RS.q rfl (QO.move) ?_
    refine RS.q rfl (QO.neq (by rfl) (by rfl)) ?_
    refine RS.nil ?_
    refine thenC_n ?_
    refine CS.cond (by rfl) (fun hb0 => ?_) (fun hb0 => ?_)
    · have hb0p := bne_iff_ne.1 hb0
      refine CS.skip ?_
      refine thenC_n ?_
      refine CS.block ?_
      refine CS.seq ?_
      refine CS.region ?_
      refine RS.q rfl (QO.move) ?_
      refine RS.q rfl (QO.move) ?_
      refine RS.q rfl (QO.gtr (by rfl) (by rfl)) ?_
      refine RS.nil ?_
      refine thenC_n ?_
      refine CS.cond (by rfl) (fun hb1 => ?_) (fun hb1 => ?_)
      · have hb1p := of_decide_eq_true hb1
        refine CS.seq ?_
        refine CS.region ?_
        refine RS.q rfl (QO.move) ?_
        refine RS.q rfl (QO.move) ?_
        refine RS.q rfl (QO.move) ?_
        first | (refine RS.qv rfl (QO.sub (by rfl) (by rfl) (by omega) (by omega)) (congrArg iv (show (m : Int) - (i : Int) = ((m - i : Nat) : Int) by omega)) ?_) | (refine RS.qv rfl (QO.ibin (by rfl) (by rfl) trivial) (congrArg iv (show (m : Int) - (i : Int) = ((m - i : Nat) : Int) by omega)) ?_)
        refine RS.q rfl (QO.move) ?_
        refine RS.q rfl (QO.move) ?_
        refine RS.q rfl (QO.move) ?_
        refine RS.callH (⟨g, 29, fl D n junk⟩ :: HR) rfl (by rfl) ok179 (by rfl) (by repeat (first | exact List.Sublist.refl _ | exact List.nil_sublist _ | refine List.Sublist.cons_cons _ ?_ | refine List.Sublist.cons _ ?_ | exact Sbp.refl | exact Sbp.nil | refine Sbp.cons (by repeat (first | exact Rem.head | apply Rem.tail)) ?_ | exact Sbp.app | refine Sbp.skip ?_ | exact List.sublist_append_left _ _ | exact List.sublist_append_right _ _)) (fun w ho => swapRange_ g n c junk HR _ fc hn (m - i) m j D (by omega) (by omega)) ?_
        rintro _ _ rfl
        refine RS.nil ?_
        refine thenC_n ?_
        refine CS.region ?_
        refine RS.q rfl (QO.move) ?_
        refine RS.q rfl (QO.move) ?_
        first | (refine RS.qv rfl (QO.sub (by rfl) (by rfl) (by omega) (by omega)) (congrArg iv (show (i : Int) - (j : Int) = ((i - j : Nat) : Int) by omega)) ?_) | (refine RS.qv rfl (QO.ibin (by rfl) (by rfl) trivial) (congrArg iv (show (i : Int) - (j : Int) = ((i - j : Nat) : Int) by omega)) ?_)
        refine RS.q rfl (QO.assign) ?_
        refine RS.nil ?_
        refine blockC_n ?_
        refine loopQ_n (by intro t ht; repeat (first | with_reducible exact rfl | exact frame_puts ht (frame_mix ht) _ rfl | (refine frame_put rfl ht ?_) | (refine frame_puts ht ?_ _ rfl) | exact frame_mix ht | (refine frame_mix2 rfl ht ?_) | exact rfl)) ?_
        exact ⟨(swR D (m - i) m j, i - j, j), ⟨(by show 1 ≤ i - j ∧ i - j ≤ m; omega), hj, (rot_gt D (by omega) (by omega)).trans hD⟩, by show i - j + j < i + j; omega, (by repeat (first | exact kn_nil | refine kn_cons (by rfl) ?_)), (by repeat (first | exact List.Sublist.refl _ | exact List.nil_sublist _ | refine List.Sublist.cons_cons _ ?_ | refine List.Sublist.cons _ ?_ | exact Sbp.refl | exact Sbp.nil | refine Sbp.cons (by repeat (first | exact Rem.head | apply Rem.tail)) ?_ | exact Sbp.app | refine Sbp.skip ?_ | exact List.sublist_append_left _ _ | exact List.sublist_append_right _ _))⟩
      · have hb1p := of_decide_eq_false hb1
        refine CS.seq ?_
        refine CS.region ?_
        refine RS.q rfl (QO.move) ?_
        refine RS.q rfl (QO.move) ?_
        refine RS.q rfl (QO.move) ?_
        first | (refine RS.qv rfl (QO.sub (by rfl) (by rfl) (by omega) (by omega)) (congrArg iv (show (m : Int) - (i : Int) = ((m - i : Nat) : Int) by omega)) ?_) | (refine RS.qv rfl (QO.ibin (by rfl) (by rfl) trivial) (congrArg iv (show (m : Int) - (i : Int) = ((m - i : Nat) : Int) by omega)) ?_)
        refine RS.q rfl (QO.move) ?_
        refine RS.q rfl (QO.move) ?_
        first | (refine RS.qv rfl (QO.add (by rfl) (by rfl) (by omega) (by omega)) (congrArg iv (show (m : Int) + (j : Int) = ((m + j : Nat) : Int) by omega)) ?_) | (refine RS.qv rfl (QO.ibin (by rfl) (by rfl) trivial) (congrArg iv (show (m : Int) + (j : Int) = ((m + j : Nat) : Int) by omega)) ?_)
        refine RS.q rfl (QO.move) ?_
        first | (refine RS.qv rfl (QO.sub (by rfl) (by rfl) (by omega) (by omega)) (congrArg iv (show ((m + j : Nat) : Int) - (i : Int) = ((m + j - i : Nat) : Int) by omega)) ?_) | (refine RS.qv rfl (QO.ibin (by rfl) (by rfl) trivial) (congrArg iv (show ((m + j : Nat) : Int) - (i : Int) = ((m + j - i : Nat) : Int) by omega)) ?_)
        refine RS.q rfl (QO.move) ?_
        refine RS.q rfl (QO.move) ?_
        refine RS.callH (⟨g, 29, fl D n junk⟩ :: HR) rfl (by rfl) ok179 (by rfl) (by repeat (first | exact List.Sublist.refl _ | exact List.nil_sublist _ | refine List.Sublist.cons_cons _ ?_ | refine List.Sublist.cons _ ?_ | exact Sbp.refl | exact Sbp.nil | refine Sbp.cons (by repeat (first | exact Rem.head | apply Rem.tail)) ?_ | exact Sbp.app | refine Sbp.skip ?_ | exact List.sublist_append_left _ _ | exact List.sublist_append_right _ _)) (fun w ho => swapRange_ g n c junk HR _ fc hn (m - i) (m + j - i) i D (by omega) (by omega)) ?_
        rintro _ _ rfl
        refine RS.nil ?_
        refine thenC_n ?_
        refine CS.region ?_
        refine RS.q rfl (QO.move) ?_
        refine RS.q rfl (QO.move) ?_
        first | (refine RS.qv rfl (QO.sub (by rfl) (by rfl) (by omega) (by omega)) (congrArg iv (show (j : Int) - (i : Int) = ((j - i : Nat) : Int) by omega)) ?_) | (refine RS.qv rfl (QO.ibin (by rfl) (by rfl) trivial) (congrArg iv (show (j : Int) - (i : Int) = ((j - i : Nat) : Int) by omega)) ?_)
        refine RS.q rfl (QO.assign) ?_
        refine RS.nil ?_
        refine blockC_n ?_
        refine loopQ_n (by intro t ht; repeat (first | with_reducible exact rfl | exact frame_puts ht (frame_mix ht) _ rfl | (refine frame_put rfl ht ?_) | (refine frame_puts ht ?_ _ rfl) | exact frame_mix ht | (refine frame_mix2 rfl ht ?_) | exact rfl)) ?_
        exact ⟨(swR D (m - i) (m + j - i) i, i, j - i), ⟨hi, (by show 1 ≤ j - i ∧ m + (j - i) ≤ n; omega), (rot_lt D (by omega) (by omega)).trans hD⟩, by show i + (j - i) < i + j; omega, (by repeat (first | exact kn_nil | refine kn_cons (by rfl) ?_)), (by repeat (first | exact List.Sublist.refl _ | exact List.nil_sublist _ | refine List.Sublist.cons_cons _ ?_ | refine List.Sublist.cons _ ?_ | exact Sbp.refl | exact Sbp.nil | refine Sbp.cons (by repeat (first | exact Rem.head | apply Rem.tail)) ?_ | exact Sbp.app | refine Sbp.skip ?_ | exact List.sublist_append_left _ _ | exact List.sublist_append_right _ _))⟩
    · have hb0p := of_bne_false hb0
      refine CS.exit ?_
      refine thenC_x ?_
      refine loopQ_x ?_
      refine blockC_x ?_
      refine thenC_n ?_
      refine CS.region ?_
      have hij : i = j := by omega
      have hfin : swR D (m - i) m i = rotD d a m b := (rot_eq D (by omega)).trans (by have h9 := hD; rw [← hij] at h9; exact h9)
      refine RS.q rfl (QO.move) ?_
      refine RS.q rfl (QO.move) ?_
      refine RS.q rfl (QO.move) ?_
      first | (refine RS.qv rfl (QO.sub (by rfl) (by rfl) (by omega) (by omega)) (congrArg iv (show (m : Int) - (i : Int) = ((m - i : Nat) : Int) by omega)) ?_) | (refine RS.qv rfl (QO.ibin (by rfl) (by rfl) trivial) (congrArg iv (show (m : Int) - (i : Int) = ((m - i : Nat) : Int) by omega)) ?_)
      refine RS.q rfl (QO.move) ?_
      refine RS.q rfl (QO.move) ?_
      refine RS.q rfl (QO.move) ?_
      refine RS.callH (⟨g, 29, fl D n junk⟩ :: HR) rfl (by rfl) ok179 (by rfl) (by repeat (first | exact List.Sublist.refl _ | exact List.nil_sublist _ | refine List.Sublist.cons_cons _ ?_ | refine List.Sublist.cons _ ?_ | exact Sbp.refl | exact Sbp.nil | refine Sbp.cons (by repeat (first | exact Rem.head | apply Rem.tail)) ?_ | exact Sbp.app | refine Sbp.skip ?_ | exact List.sublist_append_left _ _ | exact List.sublist_append_right _ _)) (fun w ho => swapRange_ g n c junk HR _ fc hn (m - i) m i D (by omega) (by omega)) ?_
      rintro _ _ rfl
      refine RS.nil ?_
      refine retQ.mk (H' := ⟨g, 29, fl (swR D (m - i) m i) n junk⟩ :: HR) (.inl rfl) RVs.nil (by repeat (first | exact List.Sublist.refl _ | exact List.nil_sublist _ | refine List.Sublist.cons_cons _ ?_ | refine List.Sublist.cons _ ?_ | exact Sbp.refl | exact Sbp.nil | refine Sbp.cons (by repeat (first | exact Rem.head | apply Rem.tail)) ?_ | exact Sbp.app | refine Sbp.skip ?_ | exact List.sublist_append_left _ _ | exact List.sublist_append_right _ _)) ?_
      rw [hfin]

set_option maxHeartbeats 4000000 in
set_option maxRecDepth 100000 in
theorem insertion_ (g n c : Nat) (junk : List Value) (HR : HL) (W : World) (fc : FuncId) (hn : n ≤ 1000000) (lt : Nat → Nat → Bool) (hlt : Ord lt) (hok : callOK Try.prog fc = true) (hf : ∀ wd Hd, Own W wd Hd → ∀ x y : Nat, x < 4294967296 → y < 4294967296 → Fn_ Try.prog fc #[flt x, flt y] wd (fun v H => ∃ r : Int, v = iv r ∧ decide (r < 0) = lt x y ∧ H = [])) (a b : Nat) (d : Nat → Nat) (hP : ∀ i, d i < 4294967296) (ha : a ≤ n) (h3 : b ≤ n) : FnH Try.prog 147 #[.slice (some ⟨g, 0, none⟩) n c, iv (a : Int), iv (b : Int), .func (.func fc) #[] #[]] W (⟨g, 29, fl d n junk⟩ :: HR) (fun v H => ∃ d2, H = ⟨g, 29, fl d2 n junk⟩ :: HR ∧ Mv n a b d d2 ∧ So lt a b d2) := by
  refine FnH.intro Try.func147 rfl rfl (by rfl) ?_
  refine CS.seq ?_
  refine CS.region ?_
  refine RS.q rfl (QO.move) ?_
  first | (refine RS.qv rfl (QO.add (by rfl) (by rfl) (by omega) (by omega)) (congrArg iv (show (a : Int) + 1 = ((a + 1 : Nat) : Int) by omega)) ?_) | (refine RS.qv rfl (QO.ibin (by rfl) (by rfl) trivial) (congrArg iv (show (a : Int) + 1 = ((a + 1 : Nat) : Int) by omega)) ?_)
  refine RS.q rfl (QO.assign) ?_
  refine RS.nil ?_
  refine thenC_n ?_
  refine CS.block ?_
  refine CS.loop (X := (Nat → Nat) × Nat) (8 :: 9 :: 12 :: 13 :: 14 :: 15 :: 16 :: 17 :: 18 :: 19 :: 20 :: 21 :: 22 :: 23 :: 24 :: 25 :: 26 :: 27 :: 28 :: 29 :: 30 :: 31 :: 32 :: 33 :: 34 :: 35 :: 36 :: 37 :: 38 :: 39 :: 40 :: 41 :: 42 :: 43 :: 44 :: 45 :: 46 :: 47 :: 48 :: 49 :: 50 :: 51 :: 52 :: []) (fun z => [(8, iv (z.2 : Int))]) (fun z => ⟨g, 29, fl z.1 n junk⟩ :: HR) (fun z => a + 1 ≤ z.2 ∧ (z.2 ≤ b ∨ z.2 = a + 1) ∧ Mv n a b d z.1 ∧ So lt a z.2 z.1) (fun z => b + 1 - z.2) (d, a + 1) ⟨Nat.le_refl _, .inr rfl, Mv.refl _ _ _ _, So.one (Nat.le_refl _)⟩ ?_ ?_ ?_
  · exact (by repeat (first | exact kn_nil | refine kn_cons (by rfl) ?_))
  · exact (by repeat (first | exact List.Sublist.refl _ | exact List.nil_sublist _ | refine List.Sublist.cons_cons _ ?_ | refine List.Sublist.cons _ ?_ | exact Sbp.refl | exact Sbp.nil | refine Sbp.cons (by repeat (first | exact Rem.head | apply Rem.tail)) ?_ | exact Sbp.app | refine Sbp.skip ?_ | exact List.sublist_append_left _ _ | exact List.sublist_append_right _ _))
  · intro z gj1 hz
    obtain ⟨D, i⟩ := z
    obtain ⟨hi1, hi2, hM, hS⟩ := hz
    replace hi1 : a + 1 ≤ i := hi1
    replace hi2 : i ≤ b ∨ i = a + 1 := hi2
    replace hM : Mv n a b d D := hM
    replace hS : So lt a i D := hS
    show CS _ _ _ _ _ (puts (mix _ _ _) [(8, iv (i : Int))]) (⟨g, 29, fl D n junk⟩ :: HR)
    refine CS.seq ?_
    refine CS.seq ?_
    refine CS.region ?_
    refine RS.q rfl (QO.move) ?_
    refine RS.q rfl (QO.move) ?_
    refine RS.q rfl (QO.lss (by rfl) (by rfl)) ?_
    refine RS.nil ?_
    refine thenC_n ?_
    refine CS.cond (by rfl) (fun hb0 => ?_) (fun hb0 => ?_)
    · have hb0p := of_decide_eq_true hb0
      refine CS.skip ?_
      refine thenC_n ?_
      refine CS.seq ?_
      refine CS.block ?_
      refine CS.seq ?_
      refine CS.region ?_
      refine RS.q rfl (QO.move) ?_
      refine RS.q rfl (QO.assign) ?_
      refine RS.nil ?_
      refine thenC_n ?_
      refine CS.block ?_
      refine CS.loop (X := (Nat → Nat) × Nat) (9 :: 18 :: 19 :: 20 :: 21 :: 22 :: 23 :: 24 :: 25 :: 26 :: 27 :: 28 :: 29 :: 30 :: 31 :: 32 :: 33 :: 34 :: 35 :: 36 :: 37 :: 38 :: 39 :: 40 :: 41 :: 42 :: 43 :: 44 :: 45 :: 46 :: 47 :: 48 :: 49 :: 50 :: 51 :: 52 :: []) (fun y => [(9, iv (y.2 : Int))]) (fun y => ⟨g, 29, fl y.1 n junk⟩ :: HR) (fun y => (a ≤ y.2 ∧ y.2 ≤ i) ∧ Mv n a b d y.1 ∧ SoX lt a (i + 1) y.2 y.1) (fun y => y.2) (D, i) ⟨(by show a ≤ i ∧ i ≤ i; omega), hM, SoX.start hS⟩ ?_ ?_ ?_
      · exact (by repeat (first | exact kn_nil | refine kn_cons (by rfl) ?_))
      · exact (by repeat (first | exact List.Sublist.refl _ | exact List.nil_sublist _ | refine List.Sublist.cons_cons _ ?_ | refine List.Sublist.cons _ ?_ | exact Sbp.refl | exact Sbp.nil | refine Sbp.cons (by repeat (first | exact Rem.head | apply Rem.tail)) ?_ | exact Sbp.app | refine Sbp.skip ?_ | exact List.sublist_append_left _ _ | exact List.sublist_append_right _ _))
      · intro y gj4 hz
        obtain ⟨E, j⟩ := y
        obtain ⟨hj, hM2, hX⟩ := hz
        replace hj : a ≤ j ∧ j ≤ i := hj
        replace hM2 : Mv n a b d E := hM2
        replace hX : SoX lt a (i + 1) j E := hX
        have hE := hM2.lt32 hP
        show CS _ _ _ _ _ (puts (mix _ _ _) [(9, iv (j : Int))]) (⟨g, 29, fl E n junk⟩ :: HR)
        refine CS.seq ?_
        refine CS.seq ?_
        refine CS.draw 17 rfl (by kernel_rfl) (by kernel_rfl) ?_
        refine RT.take (i := 0) rfl (by kernel_rfl) rfl (QO.move) ?_
        refine RT.take (i := 1) rfl (by kernel_rfl) rfl (QO.move) ?_
        refine RT.take (i := 2) rfl (by kernel_rfl) rfl (QO.gtr (by rfl) (by rfl)) ?_
        refine RT.take (i := 3) rfl (by kernel_rfl) rfl (QO.move) ?_
        refine RT.split (dj := 21) (by rfl) (fun hb1 => ?_) (fun hb1 => ?_)
        · have hb1p := of_decide_eq_true hb1
          refine RT.takeOn (i := 4) (dj := 21) rfl rfl (congrArg Value.bool hb1) (by kernel_rfl) rfl (QO.move) ?_
          refine RT.takeOn (i := 5) (dj := 21) rfl rfl (congrArg Value.bool hb1) (by kernel_rfl) rfl (QO.move) ?_
          refine RT.takeOn (i := 6) (dj := 21) rfl rfl (congrArg Value.bool hb1) (by kernel_rfl) rfl (QO.move) ?_
          first | (refine RT.takeOn (i := 7) (dj := 21) rfl rfl (congrArg Value.bool hb1) (by kernel_rfl) rfl (QO.idx0 Try.underlying24 ty29 (by rfl) (by rfl) (by rfl) (by omega)) ?_) | (refine RT.takeOn (i := 7) (dj := 21) rfl rfl (congrArg Value.bool hb1) (by kernel_rfl) rfl (QO.idxn Try.underlying24 ty29 (by rfl) (by rfl) (by rfl) (by omega)) ?_) | (refine RT.takeOn (i := 7) (dj := 21) rfl rfl (congrArg Value.bool hb1) (by kernel_rfl) rfl (QO.idx1 Try.underlying24 ty29 (by rfl) (by rfl) (by omega) (by omega)) ?_)
          refine RT.takeOn (i := 8) (dj := 21) rfl rfl (congrArg Value.bool hb1) (by kernel_rfl) rfl (QO.load ty29 (by rfl) (by repeat (first | exact List.Mem.head _ | refine List.Mem.tail _ ?_)) (fl_at (i := j) (by omega))) ?_
          refine RT.takeOn (i := 9) (dj := 21) rfl rfl (congrArg Value.bool hb1) (by kernel_rfl) rfl (QO.move) ?_
          refine RT.takeOn (i := 10) (dj := 21) rfl rfl (congrArg Value.bool hb1) (by kernel_rfl) rfl (QO.move) ?_
          first | (refine RT.takeOnv (i := 11) (dj := 21) rfl rfl (congrArg Value.bool hb1) (by kernel_rfl) rfl (QO.sub (by rfl) (by rfl) (by omega) (by omega)) (congrArg iv (show (j : Int) - 1 = ((j - 1 : Nat) : Int) by omega)) ?_) | (refine RT.takeOnv (i := 11) (dj := 21) rfl rfl (congrArg Value.bool hb1) (by kernel_rfl) rfl (QO.ibin (by rfl) (by rfl) trivial) (congrArg iv (show (j : Int) - 1 = ((j - 1 : Nat) : Int) by omega)) ?_)
          first | (refine RT.takeOn (i := 12) (dj := 21) rfl rfl (congrArg Value.bool hb1) (by kernel_rfl) rfl (QO.idx0 Try.underlying24 ty29 (by rfl) (by rfl) (by rfl) (by omega)) ?_) | (refine RT.takeOn (i := 12) (dj := 21) rfl rfl (congrArg Value.bool hb1) (by kernel_rfl) rfl (QO.idxn Try.underlying24 ty29 (by rfl) (by rfl) (by rfl) (by omega)) ?_) | (refine RT.takeOn (i := 12) (dj := 21) rfl rfl (congrArg Value.bool hb1) (by kernel_rfl) rfl (QO.idx1 Try.underlying24 ty29 (by rfl) (by rfl) (by omega) (by omega)) ?_)
          refine RT.takeOn (i := 13) (dj := 21) rfl rfl (congrArg Value.bool hb1) (by kernel_rfl) rfl (QO.load ty29 (by rfl) (by repeat (first | exact List.Mem.head _ | refine List.Mem.tail _ ?_)) (fl_at (i := j - 1) (by omega))) ?_
          refine RT.one (i := 14) (by kernel_rfl) rfl rfl ?_
          refine RS.on (dj := 21) rfl (congrArg Value.bool hb1) ?_
          refine RS.call rfl (by rfl) hok (by rfl) (fun w ho => hf w _ ho (E j) (E (j - 1)) (hE _) (hE _)) ?_
          rintro _ _ ⟨r32, rfl, hr32, rfl⟩
          refine RS.nil ⟨(by repeat (first | exact List.Sublist.refl _ | exact List.nil_sublist _ | refine List.Sublist.cons_cons _ ?_ | refine List.Sublist.cons _ ?_ | exact Sbp.refl | exact Sbp.nil | refine Sbp.cons (by repeat (first | exact Rem.head | apply Rem.tail)) ?_ | exact Sbp.app | refine Sbp.skip ?_ | exact List.sublist_append_left _ _ | exact List.sublist_append_right _ _)), ?_⟩
          refine RT.takeOnv (i := 15) (dj := 21) rfl rfl (congrArg Value.bool hb1) (by kernel_rfl) rfl (QO.lss (by rfl) (by rfl)) (congrArg Value.bool hr32) ?_
          refine RT.take (i := 16) rfl (by kernel_rfl) rfl (QO.pickT (by rfl) hb1 (by rfl)) ?_
          refine RT.done (by kernel_rfl) ?_
          refine thenC_n ?_
          refine CS.cond (by rfl) (fun hb2 => ?_) (fun hb2 => ?_)
          · refine CS.skip ?_
            refine thenC_n ?_
            refine CS.seq ?_
            refine CS.block ?_
            refine CS.draw2 [15, 17] (HT := HR) (by repeat (first | exact List.Sublist.refl _ | exact List.nil_sublist _ | refine List.Sublist.cons_cons _ ?_ | refine List.Sublist.cons _ ?_ | exact Sbp.refl | exact Sbp.nil | refine Sbp.cons (by repeat (first | exact Rem.head | apply Rem.tail)) ?_ | exact Sbp.app | refine Sbp.skip ?_ | exact List.sublist_append_left _ _ | exact List.sublist_append_right _ _)) rfl (by kernel_rfl) ?_
            refine RT2.take1 (i := 0) rfl (by kernel_rfl) rfl (QO.move) ?_
            refine RT2.take1 (i := 1) rfl (by kernel_rfl) rfl (QO.move) ?_
            refine RT2.take2 (i := 2) rfl (by kernel_rfl) rfl (QO.move) ?_
            refine RT2.take2 (i := 3) rfl (by kernel_rfl) rfl (QO.move) ?_
            first | (refine RT2.take2v (i := 4) rfl (by kernel_rfl) rfl (QO.sub (by rfl) (by rfl) (by omega) (by omega)) (congrArg iv (show (j : Int) - 1 = ((j - 1 : Nat) : Int) by omega)) ?_) | (refine RT2.take2v (i := 4) rfl (by kernel_rfl) rfl (QO.ibin (by rfl) (by rfl) trivial) (congrArg iv (show (j : Int) - 1 = ((j - 1 : Nat) : Int) by omega)) ?_)
            refine RT2.take1 (i := 5) rfl (by kernel_rfl) rfl (QO.move) ?_
            refine RT2.take1 (i := 6) rfl (by kernel_rfl) rfl (QO.move) ?_
            first | (refine RT2.take1v (i := 7) rfl (by kernel_rfl) rfl (QO.sub (by rfl) (by rfl) (by omega) (by omega)) (congrArg iv (show (j : Int) - 1 = ((j - 1 : Nat) : Int) by omega)) ?_) | (refine RT2.take1v (i := 7) rfl (by kernel_rfl) rfl (QO.ibin (by rfl) (by rfl) trivial) (congrArg iv (show (j : Int) - 1 = ((j - 1 : Nat) : Int) by omega)) ?_)
            first | (refine RT2.take1 (i := 8) rfl (by kernel_rfl) rfl (QO.idx0 Try.underlying24 ty29 (by rfl) (by rfl) (by rfl) (by omega)) ?_) | (refine RT2.take1 (i := 8) rfl (by kernel_rfl) rfl (QO.idxn Try.underlying24 ty29 (by rfl) (by rfl) (by rfl) (by omega)) ?_) | (refine RT2.take1 (i := 8) rfl (by kernel_rfl) rfl (QO.idx1 Try.underlying24 ty29 (by rfl) (by rfl) (by omega) (by omega)) ?_)
            refine RT2.take1 (i := 9) rfl (by kernel_rfl) rfl (QO.load ty29 (by rfl) (by repeat (first | exact List.Mem.head _ | refine List.Mem.tail _ ?_)) (fl_at (i := j - 1) (by omega))) ?_
            refine RT2.take2 (i := 10) rfl (by kernel_rfl) rfl (QO.move) ?_
            refine RT2.take2 (i := 11) rfl (by kernel_rfl) rfl (QO.move) ?_
            first | (refine RT2.take2 (i := 12) rfl (by kernel_rfl) rfl (QO.idx0 Try.underlying24 ty29 (by rfl) (by rfl) (by rfl) (by omega)) ?_) | (refine RT2.take2 (i := 12) rfl (by kernel_rfl) rfl (QO.idxn Try.underlying24 ty29 (by rfl) (by rfl) (by rfl) (by omega)) ?_) | (refine RT2.take2 (i := 12) rfl (by kernel_rfl) rfl (QO.idx1 Try.underlying24 ty29 (by rfl) (by rfl) (by omega) (by omega)) ?_)
            refine RT2.take1 (i := 13) rfl (by kernel_rfl) rfl (QO.load ty29 (by rfl) (by repeat (first | exact List.Mem.head _ | refine List.Mem.tail _ ?_)) (fl_at (i := j) (by omega))) ?_
            first | (refine RT2.take1 (i := 14) rfl (by kernel_rfl) rfl (QO.idx0 Try.underlying24 ty29 (by rfl) (by rfl) (by rfl) (by omega)) ?_) | (refine RT2.take1 (i := 14) rfl (by kernel_rfl) rfl (QO.idxn Try.underlying24 ty29 (by rfl) (by rfl) (by rfl) (by omega)) ?_) | (refine RT2.take1 (i := 14) rfl (by kernel_rfl) rfl (QO.idx1 Try.underlying24 ty29 (by rfl) (by rfl) (by omega) (by omega)) ?_)
            refine RT2.oneX (i := 15) (by kernel_rfl) rfl (by kernel_rfl) ?_
            refine RS.store1e ty29 rfl (by rfl) (by rfl) (by rfl) (fl_set (n := n) (i := j) (v := E (j - 1)) (by omega)) (by repeat (first | exact Upd.head | apply Upd.tail)) (by rw [fl_len]; omega) ?_
            refine RS.nil ⟨(by repeat (first | exact List.Sublist.refl _ | exact List.nil_sublist _ | refine List.Sublist.cons_cons _ ?_ | refine List.Sublist.cons _ ?_ | exact Sbp.refl | exact Sbp.nil | refine Sbp.cons (by repeat (first | exact Rem.head | apply Rem.tail)) ?_ | exact Sbp.app | refine Sbp.skip ?_ | exact List.sublist_append_left _ _ | exact List.sublist_append_right _ _)), ?_⟩
            first | (refine RT2.take2 (i := 16) rfl (by kernel_rfl) rfl (QO.idx0 Try.underlying24 ty29 (by rfl) (by rfl) (by rfl) (by omega)) ?_) | (refine RT2.take2 (i := 16) rfl (by kernel_rfl) rfl (QO.idxn Try.underlying24 ty29 (by rfl) (by rfl) (by rfl) (by omega)) ?_) | (refine RT2.take2 (i := 16) rfl (by kernel_rfl) rfl (QO.idx1 Try.underlying24 ty29 (by rfl) (by rfl) (by omega) (by omega)) ?_)
            refine RT2.oneX (i := 17) (by kernel_rfl) rfl (by kernel_rfl) ?_
            refine RS.store1e ty29 rfl (by rfl) (by rfl) (by rfl) ((fl_set (n := n) (i := j - 1) (v := E j) (by omega)).trans (congrArg (fun q => fl q n junk) (swD_upd E j (j - 1)))) (by repeat (first | exact Upd.head | apply Upd.tail)) (by rw [fl_len]; omega) ?_
            refine RS.nil ⟨(by repeat (first | exact List.Sublist.refl _ | exact List.nil_sublist _ | refine List.Sublist.cons_cons _ ?_ | refine List.Sublist.cons _ ?_ | exact Sbp.refl | exact Sbp.nil | refine Sbp.cons (by repeat (first | exact Rem.head | apply Rem.tail)) ?_ | exact Sbp.app | refine Sbp.skip ?_ | exact List.sublist_append_left _ _ | exact List.sublist_append_right _ _)), ?_⟩
            refine RT2.done (by kernel_rfl) ?_
            refine blockC_n ?_
            refine thenC_n ?_
            refine CS.region ?_
            refine RS.q rfl (QO.move) ?_
            first | (refine RS.q rfl (QO.sub (by rfl) (by rfl) (by omega) (by omega)) ?_) | (refine RS.q rfl (QO.ibin (by rfl) (by rfl) trivial) ?_)
            refine RS.q rfl (QO.assign) ?_
            refine RS.nil ?_
            refine loopQ_n (by intro t ht; repeat (first | with_reducible exact rfl | exact frame_puts ht (frame_mix ht) _ rfl | (refine frame_put rfl ht ?_) | (refine frame_puts ht ?_ _ rfl) | exact frame_mix ht | (refine frame_mix2 rfl ht ?_) | exact rfl)) ?_
            exact ⟨(swD E j (j - 1), j - 1), ⟨(by show a ≤ j - 1 ∧ j - 1 ≤ i; omega), hM2.trans (Mv.sw E (by omega) (by omega) h3), SoX.step hlt hX (by omega) (by omega) hb2⟩, by show j - 1 < j; omega, kn_cons (congrArg iv (by show (j : Int) - 1 = ((j - 1 : Nat) : Int); omega)) kn_nil, (by repeat (first | exact List.Sublist.refl _ | exact List.nil_sublist _ | refine List.Sublist.cons_cons _ ?_ | refine List.Sublist.cons _ ?_ | exact Sbp.refl | exact Sbp.nil | refine Sbp.cons (by repeat (first | exact Rem.head | apply Rem.tail)) ?_ | exact Sbp.app | refine Sbp.skip ?_ | exact List.sublist_append_left _ _ | exact List.sublist_append_right _ _))⟩
          · refine CS.exit ?_
            refine thenC_x ?_
            refine loopQ_x ?_
            refine blockC_x ?_
            refine blockC_n ?_
            refine thenC_n ?_
            refine CS.region ?_
            refine RS.q rfl (QO.move) ?_
            first | (refine RS.q rfl (QO.add (by rfl) (by rfl) (by omega) (by omega)) ?_) | (refine RS.q rfl (QO.ibin (by rfl) (by rfl) trivial) ?_)
            refine RS.q rfl (QO.assign) ?_
            refine RS.nil ?_
            refine loopQ_n (by intro t ht; repeat (first | with_reducible exact rfl | exact frame_puts ht (frame_mix ht) _ rfl | (refine frame_put rfl ht ?_) | (refine frame_puts ht ?_ _ rfl) | exact frame_mix ht | (refine frame_mix2 rfl ht ?_) | exact rfl)) ?_
            exact ⟨(E, i + 1), ⟨(by show a + 1 ≤ i + 1; omega), .inl (by show i + 1 ≤ b; omega), hM2, SoX.done hlt hX (.inr hb2)⟩, by show b + 1 - (i + 1) < b + 1 - i; omega, (by repeat (first | exact kn_nil | refine kn_cons (by rfl) ?_)), (by repeat (first | exact List.Sublist.refl _ | exact List.nil_sublist _ | refine List.Sublist.cons_cons _ ?_ | refine List.Sublist.cons _ ?_ | exact Sbp.refl | exact Sbp.nil | refine Sbp.cons (by repeat (first | exact Rem.head | apply Rem.tail)) ?_ | exact Sbp.app | refine Sbp.skip ?_ | exact List.sublist_append_left _ _ | exact List.sublist_append_right _ _))⟩
        · have hb1p := of_decide_eq_false hb1
          refine RT.takeOff (i := 4) (dj := 21) rfl rfl (.inl (congrArg Value.bool hb1)) (fun _ => rfl) (by kernel_rfl) rfl ?_
          refine RT.takeOff (i := 5) (dj := 21) rfl rfl (.inl (congrArg Value.bool hb1)) (fun _ => rfl) (by kernel_rfl) rfl ?_
          refine RT.takeOff (i := 6) (dj := 21) rfl rfl (.inl (congrArg Value.bool hb1)) (fun _ => rfl) (by kernel_rfl) rfl ?_
          refine RT.takeOff (i := 7) (dj := 21) rfl rfl (.inl (congrArg Value.bool hb1)) (fun _ => rfl) (by kernel_rfl) rfl ?_
          refine RT.takeOff (i := 8) (dj := 21) rfl rfl (.inl (congrArg Value.bool hb1)) (fun _ => rfl) (by kernel_rfl) rfl ?_
          refine RT.takeOff (i := 9) (dj := 21) rfl rfl (.inl (congrArg Value.bool hb1)) (fun _ => rfl) (by kernel_rfl) rfl ?_
          refine RT.takeOff (i := 10) (dj := 21) rfl rfl (.inl (congrArg Value.bool hb1)) (fun _ => rfl) (by kernel_rfl) rfl ?_
          refine RT.takeOff (i := 11) (dj := 21) rfl rfl (.inl (congrArg Value.bool hb1)) (fun _ => rfl) (by kernel_rfl) rfl ?_
          refine RT.takeOff (i := 12) (dj := 21) rfl rfl (.inl (congrArg Value.bool hb1)) (fun _ => rfl) (by kernel_rfl) rfl ?_
          refine RT.takeOff (i := 13) (dj := 21) rfl rfl (.inl (congrArg Value.bool hb1)) (fun _ => rfl) (by kernel_rfl) rfl ?_
          refine RT.one (i := 14) (by kernel_rfl) rfl rfl ?_
          refine RS.off (dj := 21) rfl (.inl (congrArg Value.bool hb1)) (fun _ => rfl) rfl ?_
          refine RS.nil ⟨(by repeat (first | exact List.Sublist.refl _ | exact List.nil_sublist _ | refine List.Sublist.cons_cons _ ?_ | refine List.Sublist.cons _ ?_ | exact Sbp.refl | exact Sbp.nil | refine Sbp.cons (by repeat (first | exact Rem.head | apply Rem.tail)) ?_ | exact Sbp.app | refine Sbp.skip ?_ | exact List.sublist_append_left _ _ | exact List.sublist_append_right _ _)), ?_⟩
          refine RT.takeOff (i := 15) (dj := 21) rfl rfl (.inl (congrArg Value.bool hb1)) (fun _ => rfl) (by kernel_rfl) rfl ?_
          refine RT.take (i := 16) rfl (by kernel_rfl) rfl (QO.pickF (by rfl) hb1 (by rfl)) ?_
          refine RT.done (by kernel_rfl) ?_
          refine thenC_n ?_
          refine CS.condF (by rfl) rfl ?_
          refine CS.exit ?_
          refine thenC_x ?_
          refine loopQ_x ?_
          refine blockC_x ?_
          refine blockC_n ?_
          refine thenC_n ?_
          refine CS.region ?_
          refine RS.q rfl (QO.move) ?_
          first | (refine RS.q rfl (QO.add (by rfl) (by rfl) (by omega) (by omega)) ?_) | (refine RS.q rfl (QO.ibin (by rfl) (by rfl) trivial) ?_)
          refine RS.q rfl (QO.assign) ?_
          refine RS.nil ?_
          refine loopQ_n (by intro t ht; repeat (first | with_reducible exact rfl | exact frame_puts ht (frame_mix ht) _ rfl | (refine frame_put rfl ht ?_) | (refine frame_puts ht ?_ _ rfl) | exact frame_mix ht | (refine frame_mix2 rfl ht ?_) | exact rfl)) ?_
          exact ⟨(E, i + 1), ⟨(by show a + 1 ≤ i + 1; omega), .inl (by show i + 1 ≤ b; omega), hM2, SoX.done hlt hX (.inl (by omega))⟩, by show b + 1 - (i + 1) < b + 1 - i; omega, (by repeat (first | exact kn_nil | refine kn_cons (by rfl) ?_)), (by repeat (first | exact List.Sublist.refl _ | exact List.nil_sublist _ | refine List.Sublist.cons_cons _ ?_ | refine List.Sublist.cons _ ?_ | exact Sbp.refl | exact Sbp.nil | refine Sbp.cons (by repeat (first | exact Rem.head | apply Rem.tail)) ?_ | exact Sbp.app | refine Sbp.skip ?_ | exact List.sublist_append_left _ _ | exact List.sublist_append_right _ _))⟩
    · have hb0p := of_decide_eq_false hb0
      refine CS.exit ?_
      refine thenC_x ?_
      refine loopQ_x ?_
      refine blockC_x ?_
      refine retQ.mk (H' := ⟨g, 29, fl D n junk⟩ :: HR) (.inl rfl) RVs.nil (by repeat (first | exact List.Sublist.refl _ | exact List.nil_sublist _ | refine List.Sublist.cons_cons _ ?_ | refine List.Sublist.cons _ ?_ | exact Sbp.refl | exact Sbp.nil | refine Sbp.cons (by repeat (first | exact Rem.head | apply Rem.tail)) ?_ | exact Sbp.app | refine Sbp.skip ?_ | exact List.sublist_append_left _ _ | exact List.sublist_append_right _ _)) ?_
      exact ⟨D, rfl, hM, hS.mono (Nat.le_refl _) (by omega)⟩

set_option maxHeartbeats 4000000 in
set_option maxRecDepth 100000 in
theorem symStep (g n c : Nat) (junk : List Value) (HR : HL) (W : World) (fc : FuncId) (hn : n ≤ 1000000) (lt : Nat → Nat → Bool) (hlt : Ord lt) (hok : callOK Try.prog fc = true) (hf : ∀ wd Hd, Own W wd Hd → ∀ x y : Nat, x < 4294967296 → y < 4294967296 → Fn_ Try.prog fc #[flt x, flt y] wd (fun v H => ∃ r : Int, v = iv r ∧ decide (r < 0) = lt x y ∧ H = [])) (k : Nat) (ih : ∀ (a m b : Nat) (d : Nat → Nat), b - a < k → a < m → m < b → b ≤ n → (∀ i, d i < 4294967296) → So lt a m d → So lt m b d → FnH Try.prog 148 #[.slice (some ⟨g, 0, none⟩) n c, iv (a : Int), iv (m : Int), iv (b : Int), .func (.func fc) #[] #[]] W (⟨g, 29, fl d n junk⟩ :: HR) (fun v H => ∃ d2, H = ⟨g, 29, fl d2 n junk⟩ :: HR ∧ Mv n a b d d2 ∧ So lt a b d2)) (a m b : Nat) (d : Nat → Nat) (hk : b - a = k) (h1 : a < m) (h2 : m < b) (h3 : b ≤ n) (hP : ∀ i, d i < 4294967296) (hS1 : So lt a m d) (hS2 : So lt m b d) : FnH Try.prog 148 #[.slice (some ⟨g, 0, none⟩) n c, iv (a : Int), iv (m : Int), iv (b : Int), .func (.func fc) #[] #[]] W (⟨g, 29, fl d n junk⟩ :: HR) (fun v H => ∃ d2, H = ⟨g, 29, fl d2 n junk⟩ :: HR ∧ Mv n a b d d2 ∧ So lt a b d2) := by
  refine FnH.intro Try.func148 rfl rfl (by rfl) ?_
  refine CS.seq ?_
  refine CS.seq ?_
  refine CS.region ?_
  refine RS.q rfl (QO.move) ?_
  refine RS.q rfl (QO.move) ?_
  first | (refine RS.qv rfl (QO.sub (by rfl) (by rfl) (by omega) (by omega)) (congrArg iv (show (m : Int) - (a : Int) = ((m - a : Nat) : Int) by omega)) ?_) | (refine RS.qv rfl (QO.ibin (by rfl) (by rfl) trivial) (congrArg iv (show (m : Int) - (a : Int) = ((m - a : Nat) : Int) by omega)) ?_)
  refine RS.q rfl (QO.eql (by rfl) (by rfl)) ?_
  refine RS.nil ?_
  refine thenC_n ?_
  refine CS.cond (by rfl) (fun hb0 => ?_) (fun hb0 => ?_)
  · have hb0p := eq_of_beq hb0
    refine CS.seq ?_
    refine CS.region ?_
    refine RS.q rfl (QO.move) ?_
    refine RS.q rfl (QO.assign) ?_
    refine RS.nil ?_
    refine thenC_n ?_
    refine CS.seq ?_
    refine CS.region ?_
    refine RS.q rfl (QO.move) ?_
    refine RS.q rfl (QO.assign) ?_
    refine RS.nil ?_
    refine thenC_n ?_
    refine CS.seq ?_
    refine CS.block ?_
    refine CS.loop (X := Nat × Nat) (10 :: 11 :: 12 :: 31 :: 32 :: 33 :: 34 :: 35 :: 36 :: 37 :: 38 :: 39 :: 40 :: 41 :: 42 :: 43 :: 44 :: 45 :: 46 :: 47 :: 48 :: 49 :: 50 :: 51 :: 52 :: 53 :: []) (fun z => [(10, iv (z.1 : Int)), (11, iv (z.2 : Int))]) (fun z => ⟨g, 29, fl d n junk⟩ :: HR) (fun z => (m ≤ z.1 ∧ z.1 ≤ z.2 ∧ z.2 ≤ b) ∧ (m < z.1 → lt (d (z.1 - 1)) (d a) = true) ∧ (z.2 < b → lt (d z.2) (d a) = false)) (fun z => z.2 - z.1) (m, b) ⟨(by show m ≤ m ∧ m ≤ b ∧ b ≤ b; omega), fun h => absurd h (Nat.lt_irrefl _), fun h => absurd h (Nat.lt_irrefl _)⟩ ?_ ?_ ?_
    · exact (by repeat (first | exact kn_nil | refine kn_cons (by rfl) ?_))
    · exact (by repeat (first | exact List.Sublist.refl _ | exact List.nil_sublist _ | refine List.Sublist.cons_cons _ ?_ | refine List.Sublist.cons _ ?_ | exact Sbp.refl | exact Sbp.nil | refine Sbp.cons (by repeat (first | exact Rem.head | apply Rem.tail)) ?_ | exact Sbp.app | refine Sbp.skip ?_ | exact List.sublist_append_left _ _ | exact List.sublist_append_right _ _))
    · intro z gj3 hz
      obtain ⟨i, j⟩ := z
      obtain ⟨hij, hq1, hq2⟩ := hz
      replace hij : m ≤ i ∧ i ≤ j ∧ j ≤ b := hij
      replace hq1 : m < i → lt (d (i - 1)) (d a) = true := hq1
      replace hq2 : j < b → lt (d j) (d a) = false := hq2
      show CS _ _ _ _ _ (puts (mix _ _ _) [(10, iv (i : Int)), (11, iv (j : Int))]) (⟨g, 29, fl d n junk⟩ :: HR)
      refine CS.seq ?_
      refine CS.seq ?_
      refine CS.region ?_
      refine RS.q rfl (QO.move) ?_
      refine RS.q rfl (QO.move) ?_
      refine RS.q rfl (QO.lss (by rfl) (by rfl)) ?_
      refine RS.nil ?_
      refine thenC_n ?_
      refine CS.cond (by rfl) (fun hb1 => ?_) (fun hb1 => ?_)
      · have hb1p := of_decide_eq_true hb1
        refine CS.skip ?_
        refine thenC_n ?_
        refine CS.block ?_
        refine CS.seq ?_
        refine CS.region ?_
        refine RS.q rfl (QO.move) ?_
        refine RS.q rfl (QO.move) ?_
        first | (refine RS.qv rfl (QO.add (by rfl) (by rfl) (by omega) (by omega)) (congrArg iv (show (i : Int) + (j : Int) = ((i + j : Nat) : Int) by omega)) ?_) | (refine RS.qv rfl (QO.ibin (by rfl) (by rfl) trivial) (congrArg iv (show (i : Int) + (j : Int) = ((i + j : Nat) : Int) by omega)) ?_)
        refine RS.qv rfl (QO.conv_int Try.underlying3 Try.underlying105 (by rfl)) (congrArg (Value.int .u64) (u64_id (x := i + j) (by omega))) ?_
        refine RS.qv rfl (QO.shr2 (by rfl) (by rfl) (by decide)) (congrArg (Value.int .u64) (half_nat (i + j))) ?_
        refine RS.qv rfl (QO.conv_int Try.underlying105 Try.underlying3 (by rfl)) (congrArg iv (i64_id (x := (i + j) / 2) (by omega))) ?_
        refine RS.q rfl (QO.assign) ?_
        refine RS.nil ?_
        refine thenC_n ?_
        refine CS.seq ?_
        refine CS.draw 11 rfl (by kernel_rfl) (by kernel_rfl) ?_
        refine RT.take (i := 0) rfl (by kernel_rfl) rfl (QO.move) ?_
        refine RT.take (i := 1) rfl (by kernel_rfl) rfl (QO.move) ?_
        refine RT.take (i := 2) rfl (by kernel_rfl) rfl (QO.move) ?_
        first | (refine RT.take (i := 3) rfl (by kernel_rfl) rfl (QO.idx0 Try.underlying24 ty29 (by rfl) (by rfl) (by rfl) (by omega)) ?_) | (refine RT.take (i := 3) rfl (by kernel_rfl) rfl (QO.idxn Try.underlying24 ty29 (by rfl) (by rfl) (by rfl) (by omega)) ?_) | (refine RT.take (i := 3) rfl (by kernel_rfl) rfl (QO.idx1 Try.underlying24 ty29 (by rfl) (by rfl) (by omega) (by omega)) ?_)
        refine RT.take (i := 4) rfl (by kernel_rfl) rfl (QO.load ty29 (by rfl) (by repeat (first | exact List.Mem.head _ | refine List.Mem.tail _ ?_)) (fl_at (i := (i + j) / 2) (by omega))) ?_
        refine RT.take (i := 5) rfl (by kernel_rfl) rfl (QO.move) ?_
        refine RT.take (i := 6) rfl (by kernel_rfl) rfl (QO.move) ?_
        first | (refine RT.take (i := 7) rfl (by kernel_rfl) rfl (QO.idx0 Try.underlying24 ty29 (by rfl) (by rfl) (by rfl) (by omega)) ?_) | (refine RT.take (i := 7) rfl (by kernel_rfl) rfl (QO.idxn Try.underlying24 ty29 (by rfl) (by rfl) (by rfl) (by omega)) ?_) | (refine RT.take (i := 7) rfl (by kernel_rfl) rfl (QO.idx1 Try.underlying24 ty29 (by rfl) (by rfl) (by omega) (by omega)) ?_)
        refine RT.take (i := 8) rfl (by kernel_rfl) rfl (QO.load ty29 (by rfl) (by repeat (first | exact List.Mem.head _ | refine List.Mem.tail _ ?_)) (fl_at (i := a) (by omega))) ?_
        refine RT.one (i := 9) (by kernel_rfl) rfl rfl ?_
        refine RS.call rfl (by rfl) hok (by rfl) (fun w ho => hf w _ ho (d ((i + j) / 2)) (d a) (hP _) (hP _)) ?_
        rintro _ _ ⟨r49, rfl, hr49, rfl⟩
        refine RS.nil ⟨(by repeat (first | exact List.Sublist.refl _ | exact List.nil_sublist _ | refine List.Sublist.cons_cons _ ?_ | refine List.Sublist.cons _ ?_ | exact Sbp.refl | exact Sbp.nil | refine Sbp.cons (by repeat (first | exact Rem.head | apply Rem.tail)) ?_ | exact Sbp.app | refine Sbp.skip ?_ | exact List.sublist_append_left _ _ | exact List.sublist_append_right _ _)), ?_⟩
        refine RT.takev (i := 10) rfl (by kernel_rfl) rfl (QO.lss (by rfl) (by rfl)) (congrArg Value.bool hr49) ?_
        refine RT.done (by kernel_rfl) ?_
        refine thenC_n ?_
        refine CS.cond (by rfl) (fun hb2 => ?_) (fun hb2 => ?_)
        · refine CS.region ?_
          refine RS.q rfl (QO.move) ?_
          first | (refine RS.q rfl (QO.add (by rfl) (by rfl) (by omega) (by omega)) ?_) | (refine RS.q rfl (QO.ibin (by rfl) (by rfl) trivial) ?_)
          refine RS.q rfl (QO.assign) ?_
          refine RS.nil ?_
          refine blockC_n ?_
          refine loopQ_n (by intro t ht; repeat (first | with_reducible exact rfl | exact frame_puts ht (frame_mix ht) _ rfl | (refine frame_put rfl ht ?_) | (refine frame_puts ht ?_ _ rfl) | exact frame_mix ht | (refine frame_mix2 rfl ht ?_) | exact rfl)) ?_
          exact ⟨(((i + j) / 2) + 1, j), ⟨(by show m ≤ ((i + j) / 2) + 1 ∧ ((i + j) / 2) + 1 ≤ j ∧ j ≤ b; omega), fun _ => (by show lt (d ((i + j) / 2 + 1 - 1)) (d a) = true; rw [Nat.add_sub_cancel]; exact hb2), hq2⟩, by show j - (((i + j) / 2) + 1) < j - i; omega, (by repeat (first | exact kn_nil | refine kn_cons (by rfl) ?_)), (by repeat (first | exact List.Sublist.refl _ | exact List.nil_sublist _ | refine List.Sublist.cons_cons _ ?_ | refine List.Sublist.cons _ ?_ | exact Sbp.refl | exact Sbp.nil | refine Sbp.cons (by repeat (first | exact Rem.head | apply Rem.tail)) ?_ | exact Sbp.app | refine Sbp.skip ?_ | exact List.sublist_append_left _ _ | exact List.sublist_append_right _ _))⟩
        · refine CS.region ?_
          refine RS.q rfl (QO.move) ?_
          refine RS.q rfl (QO.assign) ?_
          refine RS.nil ?_
          refine blockC_n ?_
          refine loopQ_n (by intro t ht; repeat (first | with_reducible exact rfl | exact frame_puts ht (frame_mix ht) _ rfl | (refine frame_put rfl ht ?_) | (refine frame_puts ht ?_ _ rfl) | exact frame_mix ht | (refine frame_mix2 rfl ht ?_) | exact rfl)) ?_
          exact ⟨(i, ((i + j) / 2)), ⟨(by show m ≤ i ∧ i ≤ ((i + j) / 2) ∧ ((i + j) / 2) ≤ b; omega), hq1, fun _ => hb2⟩, by show ((i + j) / 2) - i < j - i; omega, (by repeat (first | exact kn_nil | refine kn_cons (by rfl) ?_)), (by repeat (first | exact List.Sublist.refl _ | exact List.nil_sublist _ | refine List.Sublist.cons_cons _ ?_ | refine List.Sublist.cons _ ?_ | exact Sbp.refl | exact Sbp.nil | refine Sbp.cons (by repeat (first | exact Rem.head | apply Rem.tail)) ?_ | exact Sbp.app | refine Sbp.skip ?_ | exact List.sublist_append_left _ _ | exact List.sublist_append_right _ _))⟩
      · have hb1p := of_decide_eq_false hb1
        refine CS.exit ?_
        refine thenC_x ?_
        refine loopQ_x ?_
        refine blockC_x ?_
        refine thenC_n ?_
        refine CS.seq ?_
        refine CS.seq ?_
        refine CS.region ?_
        refine RS.q rfl (QO.move) ?_
        refine RS.q rfl (QO.assign) ?_
        refine RS.nil ?_
        refine thenC_n ?_
        refine CS.block ?_
        refine CS.loop (X := Nat) (13 :: 55 :: 56 :: 57 :: 58 :: 59 :: 60 :: 61 :: 62 :: 63 :: 64 :: 65 :: 66 :: 67 :: 68 :: 69 :: 70 :: 71 :: 72 :: 73 :: 74 :: 75 :: 76 :: []) (fun q => [(13, iv (q : Int))]) (fun q => ⟨g, 29, fl (rotD d a (a + 1) (q + 1)) n junk⟩ :: HR) (fun q => a ≤ q ∧ q + 1 ≤ i) (fun q => i - q) a ⟨Nat.le_refl _, by omega⟩ ?_ ?_ ?_
        · exact (by repeat (first | exact kn_nil | refine kn_cons (by rfl) ?_))
        · exact (by rw [rot_triv d (by omega) (by omega) (.inr rfl)]; exact (by repeat (first | exact List.Sublist.refl _ | exact List.nil_sublist _ | refine List.Sublist.cons_cons _ ?_ | refine List.Sublist.cons _ ?_ | exact Sbp.refl | exact Sbp.nil | refine Sbp.cons (by repeat (first | exact Rem.head | apply Rem.tail)) ?_ | exact Sbp.app | refine Sbp.skip ?_ | exact List.sublist_append_left _ _ | exact List.sublist_append_right _ _)))
        · intro q gj9 hz
          refine CS.seq ?_
          refine CS.seq ?_
          refine CS.region ?_
          refine RS.q rfl (QO.move) ?_
          refine RS.q rfl (QO.move) ?_
          first | (refine RS.qv rfl (QO.sub (by rfl) (by rfl) (by omega) (by omega)) (congrArg iv (show (i : Int) - 1 = ((i - 1 : Nat) : Int) by omega)) ?_) | (refine RS.qv rfl (QO.ibin (by rfl) (by rfl) trivial) (congrArg iv (show (i : Int) - 1 = ((i - 1 : Nat) : Int) by omega)) ?_)
          refine RS.q rfl (QO.lss (by rfl) (by rfl)) ?_
          refine RS.nil ?_
          refine thenC_n ?_
          refine CS.cond (by rfl) (fun hb3 => ?_) (fun hb3 => ?_)
          · have hb3p := of_decide_eq_true hb3
            refine CS.skip ?_
            refine thenC_n ?_
            refine CS.seq ?_
            refine CS.block ?_
            refine CS.draw2 [15, 17] (HT := HR) (by repeat (first | exact List.Sublist.refl _ | exact List.nil_sublist _ | refine List.Sublist.cons_cons _ ?_ | refine List.Sublist.cons _ ?_ | exact Sbp.refl | exact Sbp.nil | refine Sbp.cons (by repeat (first | exact Rem.head | apply Rem.tail)) ?_ | exact Sbp.app | refine Sbp.skip ?_ | exact List.sublist_append_left _ _ | exact List.sublist_append_right _ _)) rfl (by kernel_rfl) ?_
            refine RT2.take1 (i := 0) rfl (by kernel_rfl) rfl (QO.move) ?_
            refine RT2.take1 (i := 1) rfl (by kernel_rfl) rfl (QO.move) ?_
            refine RT2.take2 (i := 2) rfl (by kernel_rfl) rfl (QO.move) ?_
            refine RT2.take2 (i := 3) rfl (by kernel_rfl) rfl (QO.move) ?_
            first | (refine RT2.take2v (i := 4) rfl (by kernel_rfl) rfl (QO.add (by rfl) (by rfl) (by omega) (by omega)) (congrArg iv (show (q : Int) + 1 = ((q + 1 : Nat) : Int) by omega)) ?_) | (refine RT2.take2v (i := 4) rfl (by kernel_rfl) rfl (QO.ibin (by rfl) (by rfl) trivial) (congrArg iv (show (q : Int) + 1 = ((q + 1 : Nat) : Int) by omega)) ?_)
            refine RT2.take1 (i := 5) rfl (by kernel_rfl) rfl (QO.move) ?_
            refine RT2.take1 (i := 6) rfl (by kernel_rfl) rfl (QO.move) ?_
            first | (refine RT2.take1v (i := 7) rfl (by kernel_rfl) rfl (QO.add (by rfl) (by rfl) (by omega) (by omega)) (congrArg iv (show (q : Int) + 1 = ((q + 1 : Nat) : Int) by omega)) ?_) | (refine RT2.take1v (i := 7) rfl (by kernel_rfl) rfl (QO.ibin (by rfl) (by rfl) trivial) (congrArg iv (show (q : Int) + 1 = ((q + 1 : Nat) : Int) by omega)) ?_)
            first | (refine RT2.take1 (i := 8) rfl (by kernel_rfl) rfl (QO.idx0 Try.underlying24 ty29 (by rfl) (by rfl) (by rfl) (by omega)) ?_) | (refine RT2.take1 (i := 8) rfl (by kernel_rfl) rfl (QO.idxn Try.underlying24 ty29 (by rfl) (by rfl) (by rfl) (by omega)) ?_) | (refine RT2.take1 (i := 8) rfl (by kernel_rfl) rfl (QO.idx1 Try.underlying24 ty29 (by rfl) (by rfl) (by omega) (by omega)) ?_)
            refine RT2.take1 (i := 9) rfl (by kernel_rfl) rfl (QO.load ty29 (by rfl) (by repeat (first | exact List.Mem.head _ | refine List.Mem.tail _ ?_)) (fl_at (i := q + 1) (by omega))) ?_
            refine RT2.take2 (i := 10) rfl (by kernel_rfl) rfl (QO.move) ?_
            refine RT2.take2 (i := 11) rfl (by kernel_rfl) rfl (QO.move) ?_
            first | (refine RT2.take2 (i := 12) rfl (by kernel_rfl) rfl (QO.idx0 Try.underlying24 ty29 (by rfl) (by rfl) (by rfl) (by omega)) ?_) | (refine RT2.take2 (i := 12) rfl (by kernel_rfl) rfl (QO.idxn Try.underlying24 ty29 (by rfl) (by rfl) (by rfl) (by omega)) ?_) | (refine RT2.take2 (i := 12) rfl (by kernel_rfl) rfl (QO.idx1 Try.underlying24 ty29 (by rfl) (by rfl) (by omega) (by omega)) ?_)
            refine RT2.take1 (i := 13) rfl (by kernel_rfl) rfl (QO.load ty29 (by rfl) (by repeat (first | exact List.Mem.head _ | refine List.Mem.tail _ ?_)) (fl_at (i := q) (by omega))) ?_
            first | (refine RT2.take1 (i := 14) rfl (by kernel_rfl) rfl (QO.idx0 Try.underlying24 ty29 (by rfl) (by rfl) (by rfl) (by omega)) ?_) | (refine RT2.take1 (i := 14) rfl (by kernel_rfl) rfl (QO.idxn Try.underlying24 ty29 (by rfl) (by rfl) (by rfl) (by omega)) ?_) | (refine RT2.take1 (i := 14) rfl (by kernel_rfl) rfl (QO.idx1 Try.underlying24 ty29 (by rfl) (by rfl) (by omega) (by omega)) ?_)
            refine RT2.oneX (i := 15) (by kernel_rfl) rfl (by kernel_rfl) ?_
            refine RS.store1e ty29 rfl (by rfl) (by rfl) (by rfl) (fl_set (n := n) (i := q) (v := rotD d a (a + 1) (q + 1) (q + 1)) (by omega)) (by repeat (first | exact Upd.head | apply Upd.tail)) (by rw [fl_len]; omega) ?_
            refine RS.nil ⟨(by repeat (first | exact List.Sublist.refl _ | exact List.nil_sublist _ | refine List.Sublist.cons_cons _ ?_ | refine List.Sublist.cons _ ?_ | exact Sbp.refl | exact Sbp.nil | refine Sbp.cons (by repeat (first | exact Rem.head | apply Rem.tail)) ?_ | exact Sbp.app | refine Sbp.skip ?_ | exact List.sublist_append_left _ _ | exact List.sublist_append_right _ _)), ?_⟩
            first | (refine RT2.take2 (i := 16) rfl (by kernel_rfl) rfl (QO.idx0 Try.underlying24 ty29 (by rfl) (by rfl) (by rfl) (by omega)) ?_) | (refine RT2.take2 (i := 16) rfl (by kernel_rfl) rfl (QO.idxn Try.underlying24 ty29 (by rfl) (by rfl) (by rfl) (by omega)) ?_) | (refine RT2.take2 (i := 16) rfl (by kernel_rfl) rfl (QO.idx1 Try.underlying24 ty29 (by rfl) (by rfl) (by omega) (by omega)) ?_)
            refine RT2.oneX (i := 17) (by kernel_rfl) rfl (by kernel_rfl) ?_
            refine RS.store1e ty29 rfl (by rfl) (by rfl) (by rfl) ((fl_set (n := n) (i := q + 1) (v := rotD d a (a + 1) (q + 1) q) (by omega)).trans (congrArg (fun q => fl q n junk) ((swD_upd _ _ _).trans (rot_up d a q (by omega))))) (by repeat (first | exact Upd.head | apply Upd.tail)) (by rw [fl_len]; omega) ?_
            refine RS.nil ⟨(by repeat (first | exact List.Sublist.refl _ | exact List.nil_sublist _ | refine List.Sublist.cons_cons _ ?_ | refine List.Sublist.cons _ ?_ | exact Sbp.refl | exact Sbp.nil | refine Sbp.cons (by repeat (first | exact Rem.head | apply Rem.tail)) ?_ | exact Sbp.app | refine Sbp.skip ?_ | exact List.sublist_append_left _ _ | exact List.sublist_append_right _ _)), ?_⟩
            refine RT2.done (by kernel_rfl) ?_
            refine blockC_n ?_
            refine thenC_n ?_
            refine CS.region ?_
            refine RS.q rfl (QO.move) ?_
            first | (refine RS.q rfl (QO.add (by rfl) (by rfl) (by omega) (by omega)) ?_) | (refine RS.q rfl (QO.ibin (by rfl) (by rfl) trivial) ?_)
            refine RS.q rfl (QO.assign) ?_
            refine RS.nil ?_
            refine loopQ_n (by intro t ht; repeat (first | with_reducible exact rfl | exact frame_puts ht (frame_mix ht) _ rfl | (refine frame_put rfl ht ?_) | (refine frame_puts ht ?_ _ rfl) | exact frame_mix ht | (refine frame_mix2 rfl ht ?_) | exact rfl)) ?_
            exact ⟨q + 1, ⟨by omega, by omega⟩, by omega, (by repeat (first | exact kn_nil | refine kn_cons (by rfl) ?_)), (by repeat (first | exact List.Sublist.refl _ | exact List.nil_sublist _ | refine List.Sublist.cons_cons _ ?_ | refine List.Sublist.cons _ ?_ | exact Sbp.refl | exact Sbp.nil | refine Sbp.cons (by repeat (first | exact Rem.head | apply Rem.tail)) ?_ | exact Sbp.app | refine Sbp.skip ?_ | exact List.sublist_append_left _ _ | exact List.sublist_append_right _ _))⟩
          · have hb3p := of_decide_eq_false hb3
            refine CS.exit ?_
            refine thenC_x ?_
            refine loopQ_x ?_
            refine blockC_x ?_
            refine thenC_n ?_
            refine CS.ret ?_
            refine thenC_r ?_
            refine retQ.mk (H' := ⟨g, 29, fl (rotD d a (a + 1) (q + 1)) n junk⟩ :: HR) (.inr rfl) RVs.nil (by repeat (first | exact List.Sublist.refl _ | exact List.nil_sublist _ | refine List.Sublist.cons_cons _ ?_ | refine List.Sublist.cons _ ?_ | exact Sbp.refl | exact Sbp.nil | refine Sbp.cons (by repeat (first | exact Rem.head | apply Rem.tail)) ?_ | exact Sbp.app | refine Sbp.skip ?_ | exact List.sublist_append_left _ _ | exact List.sublist_append_right _ _)) ?_
            have hqi : q + 1 = i := by omega
            have hm1 : m = a + 1 := by omega
            have hij2 : i = j := by omega
            have h9 := mergeA (i := q + 1) hlt hm1 hS2 (by omega) (by rw [hqi]; exact hq1) (by rw [hqi, hij2]; exact hq2)
            rw [hm1] at h9
            exact ⟨_, rfl, rotM d (Nat.le_refl _) (by omega) (by omega) (by omega) h3, h9⟩
  · have hb0p := ne_of_beq_false hb0
    refine CS.skip ?_
    refine thenC_n ?_
    refine CS.seq ?_
    refine CS.seq ?_
    refine CS.region ?_
    refine RS.q rfl (QO.move) ?_
    refine RS.q rfl (QO.move) ?_
    first | (refine RS.qv rfl (QO.sub (by rfl) (by rfl) (by omega) (by omega)) (congrArg iv (show (b : Int) - (m : Int) = ((b - m : Nat) : Int) by omega)) ?_) | (refine RS.qv rfl (QO.ibin (by rfl) (by rfl) trivial) (congrArg iv (show (b : Int) - (m : Int) = ((b - m : Nat) : Int) by omega)) ?_)
    refine RS.q rfl (QO.eql (by rfl) (by rfl)) ?_
    refine RS.nil ?_
    refine thenC_n ?_
    refine CS.cond (by rfl) (fun hb4 => ?_) (fun hb4 => ?_)
    · have hb4p := eq_of_beq hb4
      refine CS.seq ?_
      refine CS.region ?_
      refine RS.q rfl (QO.move) ?_
      refine RS.q rfl (QO.assign) ?_
      refine RS.nil ?_
      refine thenC_n ?_
      refine CS.seq ?_
      refine CS.region ?_
      refine RS.q rfl (QO.move) ?_
      refine RS.q rfl (QO.assign) ?_
      refine RS.nil ?_
      refine thenC_n ?_
      refine CS.seq ?_
      refine CS.block ?_
      refine CS.loop (X := Nat × Nat) (14 :: 15 :: 16 :: 83 :: 84 :: 85 :: 86 :: 87 :: 88 :: 89 :: 90 :: 91 :: 92 :: 93 :: 94 :: 95 :: 96 :: 97 :: 98 :: 99 :: 100 :: 101 :: 102 :: 103 :: 104 :: 105 :: 106 :: []) (fun z => [(14, iv (z.1 : Int)), (15, iv (z.2 : Int))]) (fun z => ⟨g, 29, fl d n junk⟩ :: HR) (fun z => (a ≤ z.1 ∧ z.1 ≤ z.2 ∧ z.2 ≤ m) ∧ (a < z.1 → lt (d m) (d (z.1 - 1)) = false) ∧ (z.2 < m → lt (d m) (d z.2) = true)) (fun z => z.2 - z.1) (a, m) ⟨(by show a ≤ a ∧ a ≤ m ∧ m ≤ m; omega), fun h => absurd h (Nat.lt_irrefl _), fun h => absurd h (Nat.lt_irrefl _)⟩ ?_ ?_ ?_
      · exact (by repeat (first | exact kn_nil | refine kn_cons (by rfl) ?_))
      · exact (by repeat (first | exact List.Sublist.refl _ | exact List.nil_sublist _ | refine List.Sublist.cons_cons _ ?_ | refine List.Sublist.cons _ ?_ | exact Sbp.refl | exact Sbp.nil | refine Sbp.cons (by repeat (first | exact Rem.head | apply Rem.tail)) ?_ | exact Sbp.app | refine Sbp.skip ?_ | exact List.sublist_append_left _ _ | exact List.sublist_append_right _ _))
      · intro z gj15 hz
        obtain ⟨i, j⟩ := z
        obtain ⟨hij, hq1, hq2⟩ := hz
        replace hij : a ≤ i ∧ i ≤ j ∧ j ≤ m := hij
        replace hq1 : a < i → lt (d m) (d (i - 1)) = false := hq1
        replace hq2 : j < m → lt (d m) (d j) = true := hq2
        show CS _ _ _ _ _ (puts (mix _ _ _) [(14, iv (i : Int)), (15, iv (j : Int))]) (⟨g, 29, fl d n junk⟩ :: HR)
        refine CS.seq ?_
        refine CS.seq ?_
        refine CS.region ?_
        refine RS.q rfl (QO.move) ?_
        refine RS.q rfl (QO.move) ?_
        refine RS.q rfl (QO.lss (by rfl) (by rfl)) ?_
        refine RS.nil ?_
        refine thenC_n ?_
        refine CS.cond (by rfl) (fun hb5 => ?_) (fun hb5 => ?_)
        · have hb5p := of_decide_eq_true hb5
          refine CS.skip ?_
          refine thenC_n ?_
          refine CS.block ?_
          refine CS.seq ?_
          refine CS.region ?_
          refine RS.q rfl (QO.move) ?_
          refine RS.q rfl (QO.move) ?_
          first | (refine RS.qv rfl (QO.add (by rfl) (by rfl) (by omega) (by omega)) (congrArg iv (show (i : Int) + (j : Int) = ((i + j : Nat) : Int) by omega)) ?_) | (refine RS.qv rfl (QO.ibin (by rfl) (by rfl) trivial) (congrArg iv (show (i : Int) + (j : Int) = ((i + j : Nat) : Int) by omega)) ?_)
          refine RS.qv rfl (QO.conv_int Try.underlying3 Try.underlying105 (by rfl)) (congrArg (Value.int .u64) (u64_id (x := i + j) (by omega))) ?_
          refine RS.qv rfl (QO.shr2 (by rfl) (by rfl) (by decide)) (congrArg (Value.int .u64) (half_nat (i + j))) ?_
          refine RS.qv rfl (QO.conv_int Try.underlying105 Try.underlying3 (by rfl)) (congrArg iv (i64_id (x := (i + j) / 2) (by omega))) ?_
          refine RS.q rfl (QO.assign) ?_
          refine RS.nil ?_
          refine thenC_n ?_
          refine CS.seq ?_
          refine CS.draw 12 rfl (by kernel_rfl) (by kernel_rfl) ?_
          refine RT.take (i := 0) rfl (by kernel_rfl) rfl (QO.move) ?_
          refine RT.take (i := 1) rfl (by kernel_rfl) rfl (QO.move) ?_
          refine RT.take (i := 2) rfl (by kernel_rfl) rfl (QO.move) ?_
          first | (refine RT.take (i := 3) rfl (by kernel_rfl) rfl (QO.idx0 Try.underlying24 ty29 (by rfl) (by rfl) (by rfl) (by omega)) ?_) | (refine RT.take (i := 3) rfl (by kernel_rfl) rfl (QO.idxn Try.underlying24 ty29 (by rfl) (by rfl) (by rfl) (by omega)) ?_) | (refine RT.take (i := 3) rfl (by kernel_rfl) rfl (QO.idx1 Try.underlying24 ty29 (by rfl) (by rfl) (by omega) (by omega)) ?_)
          refine RT.take (i := 4) rfl (by kernel_rfl) rfl (QO.load ty29 (by rfl) (by repeat (first | exact List.Mem.head _ | refine List.Mem.tail _ ?_)) (fl_at (i := m) (by omega))) ?_
          refine RT.take (i := 5) rfl (by kernel_rfl) rfl (QO.move) ?_
          refine RT.take (i := 6) rfl (by kernel_rfl) rfl (QO.move) ?_
          first | (refine RT.take (i := 7) rfl (by kernel_rfl) rfl (QO.idx0 Try.underlying24 ty29 (by rfl) (by rfl) (by rfl) (by omega)) ?_) | (refine RT.take (i := 7) rfl (by kernel_rfl) rfl (QO.idxn Try.underlying24 ty29 (by rfl) (by rfl) (by rfl) (by omega)) ?_) | (refine RT.take (i := 7) rfl (by kernel_rfl) rfl (QO.idx1 Try.underlying24 ty29 (by rfl) (by rfl) (by omega) (by omega)) ?_)
          refine RT.take (i := 8) rfl (by kernel_rfl) rfl (QO.load ty29 (by rfl) (by repeat (first | exact List.Mem.head _ | refine List.Mem.tail _ ?_)) (fl_at (i := (i + j) / 2) (by omega))) ?_
          refine RT.one (i := 9) (by kernel_rfl) rfl rfl ?_
          refine RS.call rfl (by rfl) hok (by rfl) (fun w ho => hf w _ ho (d m) (d ((i + j) / 2)) (hP _) (hP _)) ?_
          rintro _ _ ⟨r101, rfl, hr101, rfl⟩
          refine RS.nil ⟨(by repeat (first | exact List.Sublist.refl _ | exact List.nil_sublist _ | refine List.Sublist.cons_cons _ ?_ | refine List.Sublist.cons _ ?_ | exact Sbp.refl | exact Sbp.nil | refine Sbp.cons (by repeat (first | exact Rem.head | apply Rem.tail)) ?_ | exact Sbp.app | refine Sbp.skip ?_ | exact List.sublist_append_left _ _ | exact List.sublist_append_right _ _)), ?_⟩
          refine RT.takev (i := 10) rfl (by kernel_rfl) rfl (QO.lss (by rfl) (by rfl)) (congrArg Value.bool hr101) ?_
          refine RT.take (i := 11) rfl (by kernel_rfl) rfl (QO.not (by rfl)) ?_
          refine RT.done (by kernel_rfl) ?_
          refine thenC_n ?_
          refine CS.cond (by rfl) (fun hb6 => ?_) (fun hb6 => ?_)
          · have hb6p := Eq.mp (Bool.not_eq_true' _) hb6
            refine CS.region ?_
            refine RS.q rfl (QO.move) ?_
            first | (refine RS.q rfl (QO.add (by rfl) (by rfl) (by omega) (by omega)) ?_) | (refine RS.q rfl (QO.ibin (by rfl) (by rfl) trivial) ?_)
            refine RS.q rfl (QO.assign) ?_
            refine RS.nil ?_
            refine blockC_n ?_
            refine loopQ_n (by intro t ht; repeat (first | with_reducible exact rfl | exact frame_puts ht (frame_mix ht) _ rfl | (refine frame_put rfl ht ?_) | (refine frame_puts ht ?_ _ rfl) | exact frame_mix ht | (refine frame_mix2 rfl ht ?_) | exact rfl)) ?_
            exact ⟨(((i + j) / 2) + 1, j), ⟨(by show a ≤ ((i + j) / 2) + 1 ∧ ((i + j) / 2) + 1 ≤ j ∧ j ≤ m; omega), fun _ => (by show lt (d m) (d ((i + j) / 2 + 1 - 1)) = false; rw [Nat.add_sub_cancel]; exact hb6p), hq2⟩, by show j - (((i + j) / 2) + 1) < j - i; omega, (by repeat (first | exact kn_nil | refine kn_cons (by rfl) ?_)), (by repeat (first | exact List.Sublist.refl _ | exact List.nil_sublist _ | refine List.Sublist.cons_cons _ ?_ | refine List.Sublist.cons _ ?_ | exact Sbp.refl | exact Sbp.nil | refine Sbp.cons (by repeat (first | exact Rem.head | apply Rem.tail)) ?_ | exact Sbp.app | refine Sbp.skip ?_ | exact List.sublist_append_left _ _ | exact List.sublist_append_right _ _))⟩
          · have hb6p := Eq.mp (Bool.not_eq_false' _) hb6
            refine CS.region ?_
            refine RS.q rfl (QO.move) ?_
            refine RS.q rfl (QO.assign) ?_
            refine RS.nil ?_
            refine blockC_n ?_
            refine loopQ_n (by intro t ht; repeat (first | with_reducible exact rfl | exact frame_puts ht (frame_mix ht) _ rfl | (refine frame_put rfl ht ?_) | (refine frame_puts ht ?_ _ rfl) | exact frame_mix ht | (refine frame_mix2 rfl ht ?_) | exact rfl)) ?_
            exact ⟨(i, ((i + j) / 2)), ⟨(by show a ≤ i ∧ i ≤ ((i + j) / 2) ∧ ((i + j) / 2) ≤ m; omega), hq1, fun _ => hb6p⟩, by show ((i + j) / 2) - i < j - i; omega, (by repeat (first | exact kn_nil | refine kn_cons (by rfl) ?_)), (by repeat (first | exact List.Sublist.refl _ | exact List.nil_sublist _ | refine List.Sublist.cons_cons _ ?_ | refine List.Sublist.cons _ ?_ | exact Sbp.refl | exact Sbp.nil | refine Sbp.cons (by repeat (first | exact Rem.head | apply Rem.tail)) ?_ | exact Sbp.app | refine Sbp.skip ?_ | exact List.sublist_append_left _ _ | exact List.sublist_append_right _ _))⟩
        · have hb5p := of_decide_eq_false hb5
          refine CS.exit ?_
          refine thenC_x ?_
          refine loopQ_x ?_
          refine blockC_x ?_
          refine thenC_n ?_
          refine CS.seq ?_
          refine CS.seq ?_
          refine CS.region ?_
          refine RS.q rfl (QO.move) ?_
          refine RS.q rfl (QO.assign) ?_
          refine RS.nil ?_
          refine thenC_n ?_
          refine CS.block ?_
          refine CS.loop (X := Nat) (17 :: 108 :: 109 :: 110 :: 111 :: 112 :: 113 :: 114 :: 115 :: 116 :: 117 :: 118 :: 119 :: 120 :: 121 :: 122 :: 123 :: 124 :: 125 :: 126 :: 127 :: 128 :: []) (fun q => [(17, iv (q : Int))]) (fun q => ⟨g, 29, fl (rotD d q m (m + 1)) n junk⟩ :: HR) (fun q => i ≤ q ∧ q ≤ m) (fun q => q) m ⟨by omega, Nat.le_refl _⟩ ?_ ?_ ?_
          · exact (by repeat (first | exact kn_nil | refine kn_cons (by rfl) ?_))
          · exact (by rw [rot_triv d (by omega) (by omega) (.inl rfl)]; exact (by repeat (first | exact List.Sublist.refl _ | exact List.nil_sublist _ | refine List.Sublist.cons_cons _ ?_ | refine List.Sublist.cons _ ?_ | exact Sbp.refl | exact Sbp.nil | refine Sbp.cons (by repeat (first | exact Rem.head | apply Rem.tail)) ?_ | exact Sbp.app | refine Sbp.skip ?_ | exact List.sublist_append_left _ _ | exact List.sublist_append_right _ _)))
          · intro q gj21 hz
            refine CS.seq ?_
            refine CS.seq ?_
            refine CS.region ?_
            refine RS.q rfl (QO.move) ?_
            refine RS.q rfl (QO.move) ?_
            refine RS.q rfl (QO.gtr (by rfl) (by rfl)) ?_
            refine RS.nil ?_
            refine thenC_n ?_
            refine CS.cond (by rfl) (fun hb7 => ?_) (fun hb7 => ?_)
            · have hb7p := of_decide_eq_true hb7
              refine CS.skip ?_
              refine thenC_n ?_
              refine CS.seq ?_
              refine CS.block ?_
              refine CS.draw2 [15, 17] (HT := HR) (by repeat (first | exact List.Sublist.refl _ | exact List.nil_sublist _ | refine List.Sublist.cons_cons _ ?_ | refine List.Sublist.cons _ ?_ | exact Sbp.refl | exact Sbp.nil | refine Sbp.cons (by repeat (first | exact Rem.head | apply Rem.tail)) ?_ | exact Sbp.app | refine Sbp.skip ?_ | exact List.sublist_append_left _ _ | exact List.sublist_append_right _ _)) rfl (by kernel_rfl) ?_
              refine RT2.take1 (i := 0) rfl (by kernel_rfl) rfl (QO.move) ?_
              refine RT2.take1 (i := 1) rfl (by kernel_rfl) rfl (QO.move) ?_
              refine RT2.take2 (i := 2) rfl (by kernel_rfl) rfl (QO.move) ?_
              refine RT2.take2 (i := 3) rfl (by kernel_rfl) rfl (QO.move) ?_
              first | (refine RT2.take2v (i := 4) rfl (by kernel_rfl) rfl (QO.sub (by rfl) (by rfl) (by omega) (by omega)) (congrArg iv (show (q : Int) - 1 = ((q - 1 : Nat) : Int) by omega)) ?_) | (refine RT2.take2v (i := 4) rfl (by kernel_rfl) rfl (QO.ibin (by rfl) (by rfl) trivial) (congrArg iv (show (q : Int) - 1 = ((q - 1 : Nat) : Int) by omega)) ?_)
              refine RT2.take1 (i := 5) rfl (by kernel_rfl) rfl (QO.move) ?_
              refine RT2.take1 (i := 6) rfl (by kernel_rfl) rfl (QO.move) ?_
              first | (refine RT2.take1v (i := 7) rfl (by kernel_rfl) rfl (QO.sub (by rfl) (by rfl) (by omega) (by omega)) (congrArg iv (show (q : Int) - 1 = ((q - 1 : Nat) : Int) by omega)) ?_) | (refine RT2.take1v (i := 7) rfl (by kernel_rfl) rfl (QO.ibin (by rfl) (by rfl) trivial) (congrArg iv (show (q : Int) - 1 = ((q - 1 : Nat) : Int) by omega)) ?_)
              first | (refine RT2.take1 (i := 8) rfl (by kernel_rfl) rfl (QO.idx0 Try.underlying24 ty29 (by rfl) (by rfl) (by rfl) (by omega)) ?_) | (refine RT2.take1 (i := 8) rfl (by kernel_rfl) rfl (QO.idxn Try.underlying24 ty29 (by rfl) (by rfl) (by rfl) (by omega)) ?_) | (refine RT2.take1 (i := 8) rfl (by kernel_rfl) rfl (QO.idx1 Try.underlying24 ty29 (by rfl) (by rfl) (by omega) (by omega)) ?_)
              refine RT2.take1 (i := 9) rfl (by kernel_rfl) rfl (QO.load ty29 (by rfl) (by repeat (first | exact List.Mem.head _ | refine List.Mem.tail _ ?_)) (fl_at (i := q - 1) (by omega))) ?_
              refine RT2.take2 (i := 10) rfl (by kernel_rfl) rfl (QO.move) ?_
              refine RT2.take2 (i := 11) rfl (by kernel_rfl) rfl (QO.move) ?_
              first | (refine RT2.take2 (i := 12) rfl (by kernel_rfl) rfl (QO.idx0 Try.underlying24 ty29 (by rfl) (by rfl) (by rfl) (by omega)) ?_) | (refine RT2.take2 (i := 12) rfl (by kernel_rfl) rfl (QO.idxn Try.underlying24 ty29 (by rfl) (by rfl) (by rfl) (by omega)) ?_) | (refine RT2.take2 (i := 12) rfl (by kernel_rfl) rfl (QO.idx1 Try.underlying24 ty29 (by rfl) (by rfl) (by omega) (by omega)) ?_)
              refine RT2.take1 (i := 13) rfl (by kernel_rfl) rfl (QO.load ty29 (by rfl) (by repeat (first | exact List.Mem.head _ | refine List.Mem.tail _ ?_)) (fl_at (i := q) (by omega))) ?_
              first | (refine RT2.take1 (i := 14) rfl (by kernel_rfl) rfl (QO.idx0 Try.underlying24 ty29 (by rfl) (by rfl) (by rfl) (by omega)) ?_) | (refine RT2.take1 (i := 14) rfl (by kernel_rfl) rfl (QO.idxn Try.underlying24 ty29 (by rfl) (by rfl) (by rfl) (by omega)) ?_) | (refine RT2.take1 (i := 14) rfl (by kernel_rfl) rfl (QO.idx1 Try.underlying24 ty29 (by rfl) (by rfl) (by omega) (by omega)) ?_)
              refine RT2.oneX (i := 15) (by kernel_rfl) rfl (by kernel_rfl) ?_
              refine RS.store1e ty29 rfl (by rfl) (by rfl) (by rfl) (fl_set (n := n) (i := q) (v := rotD d q m (m + 1) (q - 1)) (by omega)) (by repeat (first | exact Upd.head | apply Upd.tail)) (by rw [fl_len]; omega) ?_
              refine RS.nil ⟨(by repeat (first | exact List.Sublist.refl _ | exact List.nil_sublist _ | refine List.Sublist.cons_cons _ ?_ | refine List.Sublist.cons _ ?_ | exact Sbp.refl | exact Sbp.nil | refine Sbp.cons (by repeat (first | exact Rem.head | apply Rem.tail)) ?_ | exact Sbp.app | refine Sbp.skip ?_ | exact List.sublist_append_left _ _ | exact List.sublist_append_right _ _)), ?_⟩
              first | (refine RT2.take2 (i := 16) rfl (by kernel_rfl) rfl (QO.idx0 Try.underlying24 ty29 (by rfl) (by rfl) (by rfl) (by omega)) ?_) | (refine RT2.take2 (i := 16) rfl (by kernel_rfl) rfl (QO.idxn Try.underlying24 ty29 (by rfl) (by rfl) (by rfl) (by omega)) ?_) | (refine RT2.take2 (i := 16) rfl (by kernel_rfl) rfl (QO.idx1 Try.underlying24 ty29 (by rfl) (by rfl) (by omega) (by omega)) ?_)
              refine RT2.oneX (i := 17) (by kernel_rfl) rfl (by kernel_rfl) ?_
              refine RS.store1e ty29 rfl (by rfl) (by rfl) (by rfl) ((fl_set (n := n) (i := q - 1) (v := rotD d q m (m + 1) q) (by omega)).trans (congrArg (fun q => fl q n junk) ((swD_upd _ _ _).trans (rot_dn' d (by omega) (by omega))))) (by repeat (first | exact Upd.head | apply Upd.tail)) (by rw [fl_len]; omega) ?_
              refine RS.nil ⟨(by repeat (first | exact List.Sublist.refl _ | exact List.nil_sublist _ | refine List.Sublist.cons_cons _ ?_ | refine List.Sublist.cons _ ?_ | exact Sbp.refl | exact Sbp.nil | refine Sbp.cons (by repeat (first | exact Rem.head | apply Rem.tail)) ?_ | exact Sbp.app | refine Sbp.skip ?_ | exact List.sublist_append_left _ _ | exact List.sublist_append_right _ _)), ?_⟩
              refine RT2.done (by kernel_rfl) ?_
              refine blockC_n ?_
              refine thenC_n ?_
              refine CS.region ?_
              refine RS.q rfl (QO.move) ?_
              first | (refine RS.q rfl (QO.sub (by rfl) (by rfl) (by omega) (by omega)) ?_) | (refine RS.q rfl (QO.ibin (by rfl) (by rfl) trivial) ?_)
              refine RS.q rfl (QO.assign) ?_
              refine RS.nil ?_
              refine loopQ_n (by intro t ht; repeat (first | with_reducible exact rfl | exact frame_puts ht (frame_mix ht) _ rfl | (refine frame_put rfl ht ?_) | (refine frame_puts ht ?_ _ rfl) | exact frame_mix ht | (refine frame_mix2 rfl ht ?_) | exact rfl)) ?_
              exact ⟨q - 1, ⟨by omega, by omega⟩, by omega, kn_cons (congrArg iv (by show (q : Int) - 1 = ((q - 1 : Nat) : Int); omega)) kn_nil, (by repeat (first | exact List.Sublist.refl _ | exact List.nil_sublist _ | refine List.Sublist.cons_cons _ ?_ | refine List.Sublist.cons _ ?_ | exact Sbp.refl | exact Sbp.nil | refine Sbp.cons (by repeat (first | exact Rem.head | apply Rem.tail)) ?_ | exact Sbp.app | refine Sbp.skip ?_ | exact List.sublist_append_left _ _ | exact List.sublist_append_right _ _))⟩
            · have hb7p := of_decide_eq_false hb7
              refine CS.exit ?_
              refine thenC_x ?_
              refine loopQ_x ?_
              refine blockC_x ?_
              refine thenC_n ?_
              refine CS.ret ?_
              refine thenC_r ?_
              refine retQ.mk (H' := ⟨g, 29, fl (rotD d q m (m + 1)) n junk⟩ :: HR) (.inr rfl) RVs.nil (by repeat (first | exact List.Sublist.refl _ | exact List.nil_sublist _ | refine List.Sublist.cons_cons _ ?_ | refine List.Sublist.cons _ ?_ | exact Sbp.refl | exact Sbp.nil | refine Sbp.cons (by repeat (first | exact Rem.head | apply Rem.tail)) ?_ | exact Sbp.app | refine Sbp.skip ?_ | exact List.sublist_append_left _ _ | exact List.sublist_append_right _ _)) ?_
              have hqi : q = i := by omega
              have hm1 : b = m + 1 := by omega
              have hij2 : i = j := by omega
              have h9 := mergeB (i := q) hlt hm1 hS1 (by omega) (by rw [hqi]; exact hq1) (by rw [hqi, hij2]; exact hq2)
              rw [hm1] at h9 ⊢
              exact ⟨_, rfl, rotM d (by omega) (by omega) (by omega) (Nat.le_refl _) (by omega), h9⟩
    · have hb4p := ne_of_beq_false hb4
      refine CS.skip ?_
      refine thenC_n ?_
      refine CS.seq ?_
      refine CS.region ?_
      refine RS.q rfl (QO.move) ?_
      refine RS.q rfl (QO.move) ?_
      first | (refine RS.qv rfl (QO.add (by rfl) (by rfl) (by omega) (by omega)) (congrArg iv (show (a : Int) + (b : Int) = ((a + b : Nat) : Int) by omega)) ?_) | (refine RS.qv rfl (QO.ibin (by rfl) (by rfl) trivial) (congrArg iv (show (a : Int) + (b : Int) = ((a + b : Nat) : Int) by omega)) ?_)
      refine RS.qv rfl (QO.conv_int Try.underlying3 Try.underlying105 (by rfl)) (congrArg (Value.int .u64) (u64_id (x := a + b) (by omega))) ?_
      refine RS.qv rfl (QO.shr2 (by rfl) (by rfl) (by decide)) (congrArg (Value.int .u64) (half_nat (a + b))) ?_
      refine RS.qv rfl (QO.conv_int Try.underlying105 Try.underlying3 (by rfl)) (congrArg iv (i64_id (x := (a + b) / 2) (by omega))) ?_
      refine RS.q rfl (QO.assign) ?_
      refine RS.nil ?_
      refine thenC_n ?_
      refine CS.seq ?_
      refine CS.region ?_
      refine RS.q rfl (QO.move) ?_
      refine RS.q rfl (QO.move) ?_
      first | (refine RS.qv rfl (QO.add (by rfl) (by rfl) (by omega) (by omega)) (congrArg iv (show ((((a + b) / 2) : Nat) : Int) + (m : Int) = (((a + b) / 2 + m : Nat) : Int) by omega)) ?_) | (refine RS.qv rfl (QO.ibin (by rfl) (by rfl) trivial) (congrArg iv (show ((((a + b) / 2) : Nat) : Int) + (m : Int) = (((a + b) / 2 + m : Nat) : Int) by omega)) ?_)
      refine RS.q rfl (QO.assign) ?_
      refine RS.nil ?_
      refine thenC_n ?_
      refine CS.seq ?_
      refine CS.region ?_
      refine RS.q rfl (QO.assign) ?_
      refine RS.q rfl (QO.assign) ?_
      refine RS.nil ?_
      refine thenC_n ?_
      refine CS.cut (X := Nat × Nat) [20, 21, 138, 139, 140, 141, 142, 143, 144, 145, 146] (fun z => [(20, iv (z.1 : Int)), (21, iv (z.2 : Int))]) (fun z => ⟨g, 29, fl d n junk⟩ :: HR) (fun z => ((a + b) / 2 < m ∧ z.1 = (a + b) / 2 + m - b ∧ z.2 = (a + b) / 2) ∨ (m ≤ (a + b) / 2 ∧ z.1 = a ∧ z.2 = m)) ?_ ?_
      · refine CS.seq ?_
        refine CS.region ?_
        refine RS.q rfl (QO.move) ?_
        refine RS.q rfl (QO.move) ?_
        refine RS.q rfl (QO.gtr (by rfl) (by rfl)) ?_
        refine RS.nil ?_
        refine thenC_n ?_
        refine CS.cond (by rfl) (fun hb8 => ?_) (fun hb8 => ?_)
        · have hb8p := of_decide_eq_true hb8
          refine CS.seq ?_
          refine CS.region ?_
          refine RS.q rfl (QO.move) ?_
          refine RS.q rfl (QO.move) ?_
          first | (refine RS.qv rfl (QO.sub (by rfl) (by rfl) (by omega) (by omega)) (congrArg iv (show (((a + b) / 2 + m : Nat) : Int) - (b : Int) = (((a + b) / 2 + m - b : Nat) : Int) by omega)) ?_) | (refine RS.qv rfl (QO.ibin (by rfl) (by rfl) trivial) (congrArg iv (show (((a + b) / 2 + m : Nat) : Int) - (b : Int) = (((a + b) / 2 + m - b : Nat) : Int) by omega)) ?_)
          refine RS.q rfl (QO.assign) ?_
          refine RS.nil ?_
          refine thenC_n ?_
          refine CS.region ?_
          refine RS.q rfl (QO.move) ?_
          refine RS.q rfl (QO.assign) ?_
          refine RS.nil ?_
          refine cutQ_n (by intro t ht; repeat (first | with_reducible exact rfl | exact frame_puts ht (frame_mix ht) _ rfl | (refine frame_put rfl ht ?_) | (refine frame_puts ht ?_ _ rfl) | exact frame_mix ht | (refine frame_mix2 rfl ht ?_) | exact rfl)) ?_
          exact ⟨((a + b) / 2 + m - b, (a + b) / 2), .inl ⟨by omega, rfl, rfl⟩, (by repeat (first | exact kn_nil | refine kn_cons (by rfl) ?_)), (by repeat (first | exact List.Sublist.refl _ | exact List.nil_sublist _ | refine List.Sublist.cons_cons _ ?_ | refine List.Sublist.cons _ ?_ | exact Sbp.refl | exact Sbp.nil | refine Sbp.cons (by repeat (first | exact Rem.head | apply Rem.tail)) ?_ | exact Sbp.app | refine Sbp.skip ?_ | exact List.sublist_append_left _ _ | exact List.sublist_append_right _ _))⟩
        · have hb8p := of_decide_eq_false hb8
          refine CS.seq ?_
          refine CS.region ?_
          refine RS.q rfl (QO.move) ?_
          refine RS.q rfl (QO.assign) ?_
          refine RS.nil ?_
          refine thenC_n ?_
          refine CS.region ?_
          refine RS.q rfl (QO.move) ?_
          refine RS.q rfl (QO.assign) ?_
          refine RS.nil ?_
          refine cutQ_n (by intro t ht; repeat (first | with_reducible exact rfl | exact frame_puts ht (frame_mix ht) _ rfl | (refine frame_put rfl ht ?_) | (refine frame_puts ht ?_ _ rfl) | exact frame_mix ht | (refine frame_mix2 rfl ht ?_) | exact rfl)) ?_
          exact ⟨(a, m), .inr ⟨by omega, rfl, rfl⟩, (by repeat (first | exact kn_nil | refine kn_cons (by rfl) ?_)), (by repeat (first | exact List.Sublist.refl _ | exact List.nil_sublist _ | refine List.Sublist.cons_cons _ ?_ | refine List.Sublist.cons _ ?_ | exact Sbp.refl | exact Sbp.nil | refine Sbp.cons (by repeat (first | exact Rem.head | apply Rem.tail)) ?_ | exact Sbp.app | refine Sbp.skip ?_ | exact List.sublist_append_left _ _ | exact List.sublist_append_right _ _))⟩
      · intro z gj hz
        obtain ⟨lo, hi⟩ := z
        replace hz : ((a + b) / 2 < m ∧ lo = (a + b) / 2 + m - b ∧ hi = (a + b) / 2) ∨ (m ≤ (a + b) / 2 ∧ lo = a ∧ hi = m) := hz
        have hlh : lo ≤ hi ∧ hi ≤ m ∧ a ≤ lo := by omega
        have hzz := hz
        show CS _ _ _ _ _ (puts (mix _ _ _) [(20, iv (lo : Int)), (21, iv (hi : Int))]) (⟨g, 29, fl d n junk⟩ :: HR)
        refine CS.seq ?_
        refine CS.region ?_
        refine RS.q rfl (QO.move) ?_
        first | (refine RS.qv rfl (QO.sub (by rfl) (by rfl) (by omega) (by omega)) (congrArg iv (show (((a + b) / 2 + m : Nat) : Int) - 1 = (((a + b) / 2 + m - 1 : Nat) : Int) by omega)) ?_) | (refine RS.qv rfl (QO.ibin (by rfl) (by rfl) trivial) (congrArg iv (show (((a + b) / 2 + m : Nat) : Int) - 1 = (((a + b) / 2 + m - 1 : Nat) : Int) by omega)) ?_)
        refine RS.q rfl (QO.assign) ?_
        refine RS.nil ?_
        refine thenC_n ?_
        refine CS.seq ?_
        refine CS.block ?_
        refine CS.loop (X := Nat × Nat) (20 :: 21 :: 23 :: 149 :: 150 :: 151 :: 152 :: 153 :: 154 :: 155 :: 156 :: 157 :: 158 :: 159 :: 160 :: 161 :: 162 :: 163 :: 164 :: 165 :: 166 :: 167 :: 168 :: 169 :: 170 :: 171 :: 172 :: 173 :: 174 :: []) (fun z => [(20, iv (z.1 : Int)), (21, iv (z.2 : Int))]) (fun z => ⟨g, 29, fl d n junk⟩ :: HR) (fun z => (lo ≤ z.1 ∧ z.1 ≤ z.2 ∧ z.2 ≤ hi) ∧ (lo < z.1 → lt (d ((a + b) / 2 + m - 1 - (z.1 - 1))) (d (z.1 - 1)) = false) ∧ (z.2 < hi → lt (d ((a + b) / 2 + m - 1 - z.2)) (d z.2) = true)) (fun z => z.2 - z.1) (lo, hi) ⟨(by show lo ≤ lo ∧ lo ≤ hi ∧ hi ≤ hi; omega), fun h => absurd h (Nat.lt_irrefl _), fun h => absurd h (Nat.lt_irrefl _)⟩ ?_ ?_ ?_
        · exact (by repeat (first | exact kn_nil | refine kn_cons (by rfl) ?_))
        · exact (by repeat (first | exact List.Sublist.refl _ | exact List.nil_sublist _ | refine List.Sublist.cons_cons _ ?_ | refine List.Sublist.cons _ ?_ | exact Sbp.refl | exact Sbp.nil | refine Sbp.cons (by repeat (first | exact Rem.head | apply Rem.tail)) ?_ | exact Sbp.app | refine Sbp.skip ?_ | exact List.sublist_append_left _ _ | exact List.sublist_append_right _ _))
        · intro z gj33 hz
          obtain ⟨s, r⟩ := z
          obtain ⟨hij, hq1, hq2⟩ := hz
          replace hij : lo ≤ s ∧ s ≤ r ∧ r ≤ hi := hij
          replace hq1 : lo < s → lt (d ((a + b) / 2 + m - 1 - (s - 1))) (d (s - 1)) = false := hq1
          replace hq2 : r < hi → lt (d ((a + b) / 2 + m - 1 - r)) (d r) = true := hq2
          show CS _ _ _ _ _ (puts (mix _ _ _) [(20, iv (s : Int)), (21, iv (r : Int))]) (⟨g, 29, fl d n junk⟩ :: HR)
          refine CS.seq ?_
          refine CS.seq ?_
          refine CS.region ?_
          refine RS.q rfl (QO.move) ?_
          refine RS.q rfl (QO.move) ?_
          refine RS.q rfl (QO.lss (by rfl) (by rfl)) ?_
          refine RS.nil ?_
          refine thenC_n ?_
          refine CS.cond (by rfl) (fun hb9 => ?_) (fun hb9 => ?_)
          · have hb9p := of_decide_eq_true hb9
            refine CS.skip ?_
            refine thenC_n ?_
            refine CS.block ?_
            refine CS.seq ?_
            refine CS.region ?_
            refine RS.q rfl (QO.move) ?_
            refine RS.q rfl (QO.move) ?_
            first | (refine RS.qv rfl (QO.add (by rfl) (by rfl) (by omega) (by omega)) (congrArg iv (show (s : Int) + (r : Int) = ((s + r : Nat) : Int) by omega)) ?_) | (refine RS.qv rfl (QO.ibin (by rfl) (by rfl) trivial) (congrArg iv (show (s : Int) + (r : Int) = ((s + r : Nat) : Int) by omega)) ?_)
            refine RS.qv rfl (QO.conv_int Try.underlying3 Try.underlying105 (by rfl)) (congrArg (Value.int .u64) (u64_id (x := s + r) (by omega))) ?_
            refine RS.qv rfl (QO.shr2 (by rfl) (by rfl) (by decide)) (congrArg (Value.int .u64) (half_nat (s + r))) ?_
            refine RS.qv rfl (QO.conv_int Try.underlying105 Try.underlying3 (by rfl)) (congrArg iv (i64_id (x := (s + r) / 2) (by omega))) ?_
            refine RS.q rfl (QO.assign) ?_
            refine RS.nil ?_
            refine thenC_n ?_
            refine CS.seq ?_
            refine CS.draw 14 rfl (by kernel_rfl) (by kernel_rfl) ?_
            refine RT.take (i := 0) rfl (by kernel_rfl) rfl (QO.move) ?_
            refine RT.take (i := 1) rfl (by kernel_rfl) rfl (QO.move) ?_
            refine RT.take (i := 2) rfl (by kernel_rfl) rfl (QO.move) ?_
            refine RT.take (i := 3) rfl (by kernel_rfl) rfl (QO.move) ?_
            first | (refine RT.takev (i := 4) rfl (by kernel_rfl) rfl (QO.sub (by rfl) (by rfl) (by omega) (by omega)) (congrArg iv (show (((a + b) / 2 + m - 1 : Nat) : Int) - (((s + r) / 2 : Nat) : Int) = (((a + b) / 2 + m - 1 - (s + r) / 2 : Nat) : Int) by omega)) ?_) | (refine RT.takev (i := 4) rfl (by kernel_rfl) rfl (QO.ibin (by rfl) (by rfl) trivial) (congrArg iv (show (((a + b) / 2 + m - 1 : Nat) : Int) - (((s + r) / 2 : Nat) : Int) = (((a + b) / 2 + m - 1 - (s + r) / 2 : Nat) : Int) by omega)) ?_)
            first | (refine RT.take (i := 5) rfl (by kernel_rfl) rfl (QO.idx0 Try.underlying24 ty29 (by rfl) (by rfl) (by rfl) (by omega)) ?_) | (refine RT.take (i := 5) rfl (by kernel_rfl) rfl (QO.idxn Try.underlying24 ty29 (by rfl) (by rfl) (by rfl) (by omega)) ?_) | (refine RT.take (i := 5) rfl (by kernel_rfl) rfl (QO.idx1 Try.underlying24 ty29 (by rfl) (by rfl) (by omega) (by omega)) ?_)
            refine RT.take (i := 6) rfl (by kernel_rfl) rfl (QO.load ty29 (by rfl) (by repeat (first | exact List.Mem.head _ | refine List.Mem.tail _ ?_)) (fl_at (i := (a + b) / 2 + m - 1 - (s + r) / 2) (by omega))) ?_
            refine RT.take (i := 7) rfl (by kernel_rfl) rfl (QO.move) ?_
            refine RT.take (i := 8) rfl (by kernel_rfl) rfl (QO.move) ?_
            first | (refine RT.take (i := 9) rfl (by kernel_rfl) rfl (QO.idx0 Try.underlying24 ty29 (by rfl) (by rfl) (by rfl) (by omega)) ?_) | (refine RT.take (i := 9) rfl (by kernel_rfl) rfl (QO.idxn Try.underlying24 ty29 (by rfl) (by rfl) (by rfl) (by omega)) ?_) | (refine RT.take (i := 9) rfl (by kernel_rfl) rfl (QO.idx1 Try.underlying24 ty29 (by rfl) (by rfl) (by omega) (by omega)) ?_)
            refine RT.take (i := 10) rfl (by kernel_rfl) rfl (QO.load ty29 (by rfl) (by repeat (first | exact List.Mem.head _ | refine List.Mem.tail _ ?_)) (fl_at (i := (s + r) / 2) (by omega))) ?_
            refine RT.one (i := 11) (by kernel_rfl) rfl rfl ?_
            refine RS.call rfl (by rfl) hok (by rfl) (fun w ho => hf w _ ho (d ((a + b) / 2 + m - 1 - (s + r) / 2)) (d ((s + r) / 2)) (hP _) (hP _)) ?_
            rintro _ _ ⟨r169, rfl, hr169, rfl⟩
            refine RS.nil ⟨(by repeat (first | exact List.Sublist.refl _ | exact List.nil_sublist _ | refine List.Sublist.cons_cons _ ?_ | refine List.Sublist.cons _ ?_ | exact Sbp.refl | exact Sbp.nil | refine Sbp.cons (by repeat (first | exact Rem.head | apply Rem.tail)) ?_ | exact Sbp.app | refine Sbp.skip ?_ | exact List.sublist_append_left _ _ | exact List.sublist_append_right _ _)), ?_⟩
            refine RT.takev (i := 12) rfl (by kernel_rfl) rfl (QO.lss (by rfl) (by rfl)) (congrArg Value.bool hr169) ?_
            refine RT.take (i := 13) rfl (by kernel_rfl) rfl (QO.not (by rfl)) ?_
            refine RT.done (by kernel_rfl) ?_
            refine thenC_n ?_
            refine CS.cond (by rfl) (fun hb10 => ?_) (fun hb10 => ?_)
            · have hb10p := Eq.mp (Bool.not_eq_true' _) hb10
              refine CS.region ?_
              refine RS.q rfl (QO.move) ?_
              first | (refine RS.q rfl (QO.add (by rfl) (by rfl) (by omega) (by omega)) ?_) | (refine RS.q rfl (QO.ibin (by rfl) (by rfl) trivial) ?_)
              refine RS.q rfl (QO.assign) ?_
              refine RS.nil ?_
              refine blockC_n ?_
              refine loopQ_n (by intro t ht; repeat (first | with_reducible exact rfl | exact frame_puts ht (frame_mix ht) _ rfl | (refine frame_put rfl ht ?_) | (refine frame_puts ht ?_ _ rfl) | exact frame_mix ht | (refine frame_mix2 rfl ht ?_) | exact rfl)) ?_
              exact ⟨(((s + r) / 2) + 1, r), ⟨(by show lo ≤ ((s + r) / 2) + 1 ∧ ((s + r) / 2) + 1 ≤ r ∧ r ≤ hi; omega), fun _ => (by show lt (d ((a + b) / 2 + m - 1 - ((s + r) / 2 + 1 - 1))) (d ((s + r) / 2 + 1 - 1)) = false; rw [Nat.add_sub_cancel]; exact hb10p), hq2⟩, by show r - (((s + r) / 2) + 1) < r - s; omega, (by repeat (first | exact kn_nil | refine kn_cons (by rfl) ?_)), (by repeat (first | exact List.Sublist.refl _ | exact List.nil_sublist _ | refine List.Sublist.cons_cons _ ?_ | refine List.Sublist.cons _ ?_ | exact Sbp.refl | exact Sbp.nil | refine Sbp.cons (by repeat (first | exact Rem.head | apply Rem.tail)) ?_ | exact Sbp.app | refine Sbp.skip ?_ | exact List.sublist_append_left _ _ | exact List.sublist_append_right _ _))⟩
            · have hb10p := Eq.mp (Bool.not_eq_false' _) hb10
              refine CS.region ?_
              refine RS.q rfl (QO.move) ?_
              refine RS.q rfl (QO.assign) ?_
              refine RS.nil ?_
              refine blockC_n ?_
              refine loopQ_n (by intro t ht; repeat (first | with_reducible exact rfl | exact frame_puts ht (frame_mix ht) _ rfl | (refine frame_put rfl ht ?_) | (refine frame_puts ht ?_ _ rfl) | exact frame_mix ht | (refine frame_mix2 rfl ht ?_) | exact rfl)) ?_
              exact ⟨(s, ((s + r) / 2)), ⟨(by show lo ≤ s ∧ s ≤ ((s + r) / 2) ∧ ((s + r) / 2) ≤ hi; omega), hq1, fun _ => hb10p⟩, by show ((s + r) / 2) - s < r - s; omega, (by repeat (first | exact kn_nil | refine kn_cons (by rfl) ?_)), (by repeat (first | exact List.Sublist.refl _ | exact List.nil_sublist _ | refine List.Sublist.cons_cons _ ?_ | refine List.Sublist.cons _ ?_ | exact Sbp.refl | exact Sbp.nil | refine Sbp.cons (by repeat (first | exact Rem.head | apply Rem.tail)) ?_ | exact Sbp.app | refine Sbp.skip ?_ | exact List.sublist_append_left _ _ | exact List.sublist_append_right _ _))⟩
          · have hb9p := of_decide_eq_false hb9
            refine CS.exit ?_
            refine thenC_x ?_
            refine loopQ_x ?_
            refine blockC_x ?_
            refine thenC_n ?_
            refine CS.seq ?_
            refine CS.region ?_
            have hsr : s = r := by omega
            have hs0 : a ≤ s ∧ s ≤ m := by omega
            have he0 : m ≤ ((a + b) / 2 + m - s) ∧ ((a + b) / 2 + m - s) ≤ b := by omega
            have hA : a < s → ((a + b) / 2 + m - s) < b → lt (d ((a + b) / 2 + m - s)) (d (s - 1)) = false := fun g1 g2 => by
              have h9 := hq1 (by omega)
              rw [show (a + b) / 2 + m - 1 - (s - 1) = (a + b) / 2 + m - s by omega] at h9
              exact h9
            have hB : s < m → m < ((a + b) / 2 + m - s) → lt (d s) (d (((a + b) / 2 + m - s) - 1)) = false := fun g1 g2 => by
              have h9 := hlt.asym _ _ (hq2 (by omega))
              rw [← hsr, show (a + b) / 2 + m - 1 - s = (a + b) / 2 + m - s - 1 by omega] at h9
              exact h9
            refine RS.q rfl (QO.move) ?_
            refine RS.q rfl (QO.move) ?_
            first | (refine RS.qv rfl (QO.sub (by rfl) (by rfl) (by omega) (by omega)) (congrArg iv (show (((a + b) / 2 + m : Nat) : Int) - (s : Int) = (((a + b) / 2 + m - s : Nat) : Int) by omega)) ?_) | (refine RS.qv rfl (QO.ibin (by rfl) (by rfl) trivial) (congrArg iv (show (((a + b) / 2 + m : Nat) : Int) - (s : Int) = (((a + b) / 2 + m - s : Nat) : Int) by omega)) ?_)
            refine RS.q rfl (QO.assign) ?_
            refine RS.nil ?_
            refine thenC_n ?_
            refine CS.cut (X := Unit) (178 :: 179 :: 180 :: 181 :: 182 :: 183 :: 184 :: 185 :: 186 :: 187 :: 188 :: 189 :: 190 :: 191 :: []) (fun z => []) (fun z => ⟨g, 29, fl (rotD d s m ((a + b) / 2 + m - s)) n junk⟩ :: HR) (fun z => True) ?_ ?_
            · refine CS.seq ?_
              refine CS.region ?_
              refine RS.q rfl (QO.move) ?_
              refine RS.q rfl (QO.move) ?_
              refine RS.q rfl (QO.lss (by rfl) (by rfl)) ?_
              refine RS.q rfl (QO.move) ?_
              refine RS.split (dj := 181) (by rfl) (fun hb11 => ?_) (fun hb11 => ?_)
              · have hb11p := of_decide_eq_true hb11
                refine RS.on (dj := 181) rfl (congrArg Value.bool hb11) ?_
                refine RS.q rfl (QO.move) ?_
                refine RS.on (dj := 181) rfl (congrArg Value.bool hb11) ?_
                refine RS.q rfl (QO.move) ?_
                refine RS.on (dj := 181) rfl (congrArg Value.bool hb11) ?_
                refine RS.q rfl (QO.lss (by rfl) (by rfl)) ?_
                refine RS.q rfl (QO.pickT (by rfl) hb11 (by rfl)) ?_
                refine RS.nil ?_
                refine thenC_n ?_
                refine CS.cond (by rfl) (fun hb12 => ?_) (fun hb12 => ?_)
                · have hb12p := of_decide_eq_true hb12
                  refine CS.region ?_
                  refine RS.q rfl (QO.move) ?_
                  refine RS.q rfl (QO.move) ?_
                  refine RS.q rfl (QO.move) ?_
                  refine RS.q rfl (QO.move) ?_
                  refine RS.q rfl (QO.move) ?_
                  refine RS.callH (⟨g, 29, fl d n junk⟩ :: HR) rfl (by rfl) ok166 (by rfl) (by repeat (first | exact List.Sublist.refl _ | exact List.nil_sublist _ | refine List.Sublist.cons_cons _ ?_ | refine List.Sublist.cons _ ?_ | exact Sbp.refl | exact Sbp.nil | refine Sbp.cons (by repeat (first | exact Rem.head | apply Rem.tail)) ?_ | exact Sbp.app | refine Sbp.skip ?_ | exact List.sublist_append_left _ _ | exact List.sublist_append_right _ _)) (fun w ho => rotate_ g n c junk HR _ fc hn s m ((a + b) / 2 + m - s) d (by omega) (by omega) (by omega)) ?_
                  rintro _ _ rfl
                  refine RS.nil ?_
                  refine cutQ_n (by intro t ht; repeat (first | with_reducible exact rfl | exact frame_puts ht (frame_mix ht) _ rfl | (refine frame_put rfl ht ?_) | (refine frame_puts ht ?_ _ rfl) | exact frame_mix ht | (refine frame_mix2 rfl ht ?_) | exact rfl)) ?_
                  exact ⟨(), trivial, (by repeat (first | exact kn_nil | refine kn_cons (by rfl) ?_)), (by repeat (first | exact List.Sublist.refl _ | exact List.nil_sublist _ | refine List.Sublist.cons_cons _ ?_ | refine List.Sublist.cons _ ?_ | exact Sbp.refl | exact Sbp.nil | refine Sbp.cons (by repeat (first | exact Rem.head | apply Rem.tail)) ?_ | exact Sbp.app | refine Sbp.skip ?_ | exact List.sublist_append_left _ _ | exact List.sublist_append_right _ _))⟩
                · have hb12p := of_decide_eq_false hb12
                  refine CS.skip ?_
                  refine cutQ_n (by intro t ht; repeat (first | with_reducible exact rfl | exact frame_puts ht (frame_mix ht) _ rfl | (refine frame_put rfl ht ?_) | (refine frame_puts ht ?_ _ rfl) | exact frame_mix ht | (refine frame_mix2 rfl ht ?_) | exact rfl)) ?_
                  exact ⟨(), trivial, (by repeat (first | exact kn_nil | refine kn_cons (by rfl) ?_)), (by rw [rot_triv d hs0.2 he0.1 (by omega)]; exact (by repeat (first | exact List.Sublist.refl _ | exact List.nil_sublist _ | refine List.Sublist.cons_cons _ ?_ | refine List.Sublist.cons _ ?_ | exact Sbp.refl | exact Sbp.nil | refine Sbp.cons (by repeat (first | exact Rem.head | apply Rem.tail)) ?_ | exact Sbp.app | refine Sbp.skip ?_ | exact List.sublist_append_left _ _ | exact List.sublist_append_right _ _)))⟩
              · have hb11p := of_decide_eq_false hb11
                refine RS.off (dj := 181) rfl (.inl (congrArg Value.bool hb11)) (fun _ => rfl) rfl ?_
                refine RS.off (dj := 181) rfl (.inl (congrArg Value.bool hb11)) (fun _ => rfl) rfl ?_
                refine RS.off (dj := 181) rfl (.inl (congrArg Value.bool hb11)) (fun _ => rfl) rfl ?_
                refine RS.q rfl (QO.pickF (by rfl) hb11 (by rfl)) ?_
                refine RS.nil ?_
                refine thenC_n ?_
                refine CS.condF (by rfl) rfl ?_
                refine CS.skip ?_
                refine cutQ_n (by intro t ht; repeat (first | with_reducible exact rfl | exact frame_puts ht (frame_mix ht) _ rfl | (refine frame_put rfl ht ?_) | (refine frame_puts ht ?_ _ rfl) | exact frame_mix ht | (refine frame_mix2 rfl ht ?_) | exact rfl)) ?_
                exact ⟨(), trivial, (by repeat (first | exact kn_nil | refine kn_cons (by rfl) ?_)), (by rw [rot_triv d hs0.2 he0.1 (by omega)]; exact (by repeat (first | exact List.Sublist.refl _ | exact List.nil_sublist _ | refine List.Sublist.cons_cons _ ?_ | refine List.Sublist.cons _ ?_ | exact Sbp.refl | exact Sbp.nil | refine Sbp.cons (by repeat (first | exact Rem.head | apply Rem.tail)) ?_ | exact Sbp.app | refine Sbp.skip ?_ | exact List.sublist_append_left _ _ | exact List.sublist_append_right _ _)))⟩
            · intro z gj hz
              have hro := rot_so hlt hS1 hS2 hs0 he0 (c := (a + b) / 2) (by omega) hA hB
              have hR32 := (rotM d hs0.1 hs0.2 he0.1 he0.2 h3).lt32 hP
              refine CS.cut (X := Nat → Nat) (192 :: 193 :: 194 :: 195 :: 196 :: 197 :: 198 :: 199 :: 200 :: 201 :: 202 :: 203 :: 204 :: 205 :: []) (fun d2 => []) (fun d2 => ⟨g, 29, fl d2 n junk⟩ :: HR) (fun d2 => Mv n a ((a + b) / 2) (rotD d s m ((a + b) / 2 + m - s)) d2 ∧ So lt a ((a + b) / 2) d2) ?_ ?_
              · refine CS.seq ?_
                refine CS.region ?_
                refine RS.q rfl (QO.move) ?_
                refine RS.q rfl (QO.move) ?_
                refine RS.q rfl (QO.lss (by rfl) (by rfl)) ?_
                refine RS.q rfl (QO.move) ?_
                refine RS.split (dj := 195) (by rfl) (fun hb13 => ?_) (fun hb13 => ?_)
                · have hb13p := of_decide_eq_true hb13
                  refine RS.on (dj := 195) rfl (congrArg Value.bool hb13) ?_
                  refine RS.q rfl (QO.move) ?_
                  refine RS.on (dj := 195) rfl (congrArg Value.bool hb13) ?_
                  refine RS.q rfl (QO.move) ?_
                  refine RS.on (dj := 195) rfl (congrArg Value.bool hb13) ?_
                  refine RS.q rfl (QO.lss (by rfl) (by rfl)) ?_
                  refine RS.q rfl (QO.pickT (by rfl) hb13 (by rfl)) ?_
                  refine RS.nil ?_
                  refine thenC_n ?_
                  refine CS.cond (by rfl) (fun hb14 => ?_) (fun hb14 => ?_)
                  · have hb14p := of_decide_eq_true hb14
                    refine CS.region ?_
                    refine RS.q rfl (QO.move) ?_
                    refine RS.q rfl (QO.move) ?_
                    refine RS.q rfl (QO.move) ?_
                    refine RS.q rfl (QO.move) ?_
                    refine RS.q rfl (QO.move) ?_
                    refine RS.callH (⟨g, 29, fl (rotD d s m ((a + b) / 2 + m - s)) n junk⟩ :: HR) rfl (by rfl) ok148 (by rfl) (by repeat (first | exact List.Sublist.refl _ | exact List.nil_sublist _ | refine List.Sublist.cons_cons _ ?_ | refine List.Sublist.cons _ ?_ | exact Sbp.refl | exact Sbp.nil | refine Sbp.cons (by repeat (first | exact Rem.head | apply Rem.tail)) ?_ | exact Sbp.app | refine Sbp.skip ?_ | exact List.sublist_append_left _ _ | exact List.sublist_append_right _ _)) (fun w ho => ih a s ((a + b) / 2) (rotD d s m ((a + b) / 2 + m - s)) (by omega) (by omega) (by omega) (by omega) hR32 hro.1 hro.2.1) ?_
                    rintro _ _ ⟨d2, rfl, m2, s2⟩
                    refine RS.nil ?_
                    refine cutQ_n (by intro t ht; repeat (first | with_reducible exact rfl | exact frame_puts ht (frame_mix ht) _ rfl | (refine frame_put rfl ht ?_) | (refine frame_puts ht ?_ _ rfl) | exact frame_mix ht | (refine frame_mix2 rfl ht ?_) | exact rfl)) ?_
                    exact ⟨d2, ⟨m2, s2⟩, (by repeat (first | exact kn_nil | refine kn_cons (by rfl) ?_)), (by repeat (first | exact List.Sublist.refl _ | exact List.nil_sublist _ | refine List.Sublist.cons_cons _ ?_ | refine List.Sublist.cons _ ?_ | exact Sbp.refl | exact Sbp.nil | refine Sbp.cons (by repeat (first | exact Rem.head | apply Rem.tail)) ?_ | exact Sbp.app | refine Sbp.skip ?_ | exact List.sublist_append_left _ _ | exact List.sublist_append_right _ _))⟩
                  · have hb14p := of_decide_eq_false hb14
                    refine CS.skip ?_
                    refine cutQ_n (by intro t ht; repeat (first | with_reducible exact rfl | exact frame_puts ht (frame_mix ht) _ rfl | (refine frame_put rfl ht ?_) | (refine frame_puts ht ?_ _ rfl) | exact frame_mix ht | (refine frame_mix2 rfl ht ?_) | exact rfl)) ?_
                    exact ⟨(rotD d s m ((a + b) / 2 + m - s)), ⟨Mv.refl _ _ _ _, hro.1.mono (Nat.le_refl _) (by omega)⟩, (by repeat (first | exact kn_nil | refine kn_cons (by rfl) ?_)), (by repeat (first | exact List.Sublist.refl _ | exact List.nil_sublist _ | refine List.Sublist.cons_cons _ ?_ | refine List.Sublist.cons _ ?_ | exact Sbp.refl | exact Sbp.nil | refine Sbp.cons (by repeat (first | exact Rem.head | apply Rem.tail)) ?_ | exact Sbp.app | refine Sbp.skip ?_ | exact List.sublist_append_left _ _ | exact List.sublist_append_right _ _))⟩
                · have hb13p := of_decide_eq_false hb13
                  refine RS.off (dj := 195) rfl (.inl (congrArg Value.bool hb13)) (fun _ => rfl) rfl ?_
                  refine RS.off (dj := 195) rfl (.inl (congrArg Value.bool hb13)) (fun _ => rfl) rfl ?_
                  refine RS.off (dj := 195) rfl (.inl (congrArg Value.bool hb13)) (fun _ => rfl) rfl ?_
                  refine RS.q rfl (QO.pickF (by rfl) hb13 (by rfl)) ?_
                  refine RS.nil ?_
                  refine thenC_n ?_
                  refine CS.condF (by rfl) rfl ?_
                  refine CS.skip ?_
                  refine cutQ_n (by intro t ht; repeat (first | with_reducible exact rfl | exact frame_puts ht (frame_mix ht) _ rfl | (refine frame_put rfl ht ?_) | (refine frame_puts ht ?_ _ rfl) | exact frame_mix ht | (refine frame_mix2 rfl ht ?_) | exact rfl)) ?_
                  exact ⟨(rotD d s m ((a + b) / 2 + m - s)), ⟨Mv.refl _ _ _ _, hro.2.1.mono (by omega) (Nat.le_refl _)⟩, (by repeat (first | exact kn_nil | refine kn_cons (by rfl) ?_)), (by repeat (first | exact List.Sublist.refl _ | exact List.nil_sublist _ | refine List.Sublist.cons_cons _ ?_ | refine List.Sublist.cons _ ?_ | exact Sbp.refl | exact Sbp.nil | refine Sbp.cons (by repeat (first | exact Rem.head | apply Rem.tail)) ?_ | exact Sbp.app | refine Sbp.skip ?_ | exact List.sublist_append_left _ _ | exact List.sublist_append_right _ _))⟩
              · intro d2 gj hz
                obtain ⟨m2, s2⟩ := hz
                refine CS.seq ?_
                refine CS.region ?_
                refine RS.q rfl (QO.move) ?_
                refine RS.q rfl (QO.move) ?_
                refine RS.q rfl (QO.lss (by rfl) (by rfl)) ?_
                refine RS.q rfl (QO.move) ?_
                refine RS.split (dj := 209) (by rfl) (fun hb15 => ?_) (fun hb15 => ?_)
                · have hb15p := of_decide_eq_true hb15
                  refine RS.on (dj := 209) rfl (congrArg Value.bool hb15) ?_
                  refine RS.q rfl (QO.move) ?_
                  refine RS.on (dj := 209) rfl (congrArg Value.bool hb15) ?_
                  refine RS.q rfl (QO.move) ?_
                  refine RS.on (dj := 209) rfl (congrArg Value.bool hb15) ?_
                  refine RS.q rfl (QO.lss (by rfl) (by rfl)) ?_
                  refine RS.q rfl (QO.pickT (by rfl) hb15 (by rfl)) ?_
                  refine RS.nil ?_
                  refine thenC_n ?_
                  refine CS.cond (by rfl) (fun hb16 => ?_) (fun hb16 => ?_)
                  · have hb16p := of_decide_eq_true hb16
                    refine CS.region ?_
                    refine RS.q rfl (QO.move) ?_
                    refine RS.q rfl (QO.move) ?_
                    refine RS.q rfl (QO.move) ?_
                    refine RS.q rfl (QO.move) ?_
                    refine RS.q rfl (QO.move) ?_
                    refine RS.callH (⟨g, 29, fl d2 n junk⟩ :: HR) rfl (by rfl) ok148 (by rfl) (by repeat (first | exact List.Sublist.refl _ | exact List.nil_sublist _ | refine List.Sublist.cons_cons _ ?_ | refine List.Sublist.cons _ ?_ | exact Sbp.refl | exact Sbp.nil | refine Sbp.cons (by repeat (first | exact Rem.head | apply Rem.tail)) ?_ | exact Sbp.app | refine Sbp.skip ?_ | exact List.sublist_append_left _ _ | exact List.sublist_append_right _ _)) (fun w ho => ih ((a + b) / 2) ((a + b) / 2 + m - s) b d2 (by omega) (by omega) (by omega) h3 (m2.lt32 hR32) (hro.2.2.1.same fun i hi _ => m2.1 i (.inr hi)) (hro.2.2.2.1.same fun i hi _ => m2.1 i (.inr (by omega)))) ?_
                    rintro _ _ ⟨d3, rfl, m3, s3⟩
                    refine RS.nil ?_
                    refine retQ.mk (H' := ⟨g, 29, fl d3 n junk⟩ :: HR) (.inl rfl) RVs.nil (by repeat (first | exact List.Sublist.refl _ | exact List.nil_sublist _ | refine List.Sublist.cons_cons _ ?_ | refine List.Sublist.cons _ ?_ | exact Sbp.refl | exact Sbp.nil | refine Sbp.cons (by repeat (first | exact Rem.head | apply Rem.tail)) ?_ | exact Sbp.app | refine Sbp.skip ?_ | exact List.sublist_append_left _ _ | exact List.sublist_append_right _ _)) ?_
                    exact ⟨d3, rfl, (rotM d hs0.1 hs0.2 he0.1 he0.2 h3).trans ((m2.mono (Nat.le_refl _) (by omega)).trans (m3.mono (by omega) (Nat.le_refl _))), mergeC hlt hS1 hS2 hs0 he0 (c := (a + b) / 2) (by omega) hA hB m2 s2 m3 s3⟩
                  · have hb16p := of_decide_eq_false hb16
                    refine CS.skip ?_
                    refine retQ.mk (H' := ⟨g, 29, fl d2 n junk⟩ :: HR) (.inl rfl) RVs.nil (by repeat (first | exact List.Sublist.refl _ | exact List.nil_sublist _ | refine List.Sublist.cons_cons _ ?_ | refine List.Sublist.cons _ ?_ | exact Sbp.refl | exact Sbp.nil | refine Sbp.cons (by repeat (first | exact Rem.head | apply Rem.tail)) ?_ | exact Sbp.app | refine Sbp.skip ?_ | exact List.sublist_append_left _ _ | exact List.sublist_append_right _ _)) ?_
                    have m3 := Mv.refl n ((a + b) / 2) b d2
                    have s3 : So lt ((a + b) / 2) b d2 := (hro.2.2.1.same fun i hi _ => m2.1 i (.inr hi)).mono (Nat.le_refl _) (by omega)
                    exact ⟨d2, rfl, (rotM d hs0.1 hs0.2 he0.1 he0.2 h3).trans ((m2.mono (Nat.le_refl _) (by omega)).trans (m3.mono (by omega) (Nat.le_refl _))), mergeC hlt hS1 hS2 hs0 he0 (c := (a + b) / 2) (by omega) hA hB m2 s2 m3 s3⟩
                · have hb15p := of_decide_eq_false hb15
                  refine RS.off (dj := 209) rfl (.inl (congrArg Value.bool hb15)) (fun _ => rfl) rfl ?_
                  refine RS.off (dj := 209) rfl (.inl (congrArg Value.bool hb15)) (fun _ => rfl) rfl ?_
                  refine RS.off (dj := 209) rfl (.inl (congrArg Value.bool hb15)) (fun _ => rfl) rfl ?_
                  refine RS.q rfl (QO.pickF (by rfl) hb15 (by rfl)) ?_
                  refine RS.nil ?_
                  refine thenC_n ?_
                  refine CS.condF (by rfl) rfl ?_
                  refine CS.skip ?_
                  refine retQ.mk (H' := ⟨g, 29, fl d2 n junk⟩ :: HR) (.inl rfl) RVs.nil (by repeat (first | exact List.Sublist.refl _ | exact List.nil_sublist _ | refine List.Sublist.cons_cons _ ?_ | refine List.Sublist.cons _ ?_ | exact Sbp.refl | exact Sbp.nil | refine Sbp.cons (by repeat (first | exact Rem.head | apply Rem.tail)) ?_ | exact Sbp.app | refine Sbp.skip ?_ | exact List.sublist_append_left _ _ | exact List.sublist_append_right _ _)) ?_
                  have m3 := Mv.refl n ((a + b) / 2) b d2
                  have s3 : So lt ((a + b) / 2) b d2 := So.same ((hro.2.2.2.1).mono (show ((a + b) / 2 + m - s) ≤ (a + b) / 2 by omega) (Nat.le_refl _)) fun i hi _ => m2.1 i (.inr hi)
                  exact ⟨d2, rfl, (rotM d hs0.1 hs0.2 he0.1 he0.2 h3).trans ((m2.mono (Nat.le_refl _) (by omega)).trans (m3.mono (by omega) (Nat.le_refl _))), mergeC hlt hS1 hS2 hs0 he0 (c := (a + b) / 2) (by omega) hA hB m2 s2 m3 s3⟩

theorem symMerge_ (g n c : Nat) (junk : List Value) (HR : HL) (W : World) (fc : FuncId) (hn : n ≤ 1000000) (lt : Nat → Nat → Bool) (hlt : Ord lt) (hok : callOK Try.prog fc = true) (hf : ∀ wd Hd, Own W wd Hd → ∀ x y : Nat, x < 4294967296 → y < 4294967296 → Fn_ Try.prog fc #[flt x, flt y] wd (fun v H => ∃ r : Int, v = iv r ∧ decide (r < 0) = lt x y ∧ H = [])) : ∀ (k : Nat) (a m b : Nat) (d : Nat → Nat), b - a = k → a < m → m < b → b ≤ n → (∀ i, d i < 4294967296) → So lt a m d → So lt m b d → FnH Try.prog 148 #[.slice (some ⟨g, 0, none⟩) n c, iv (a : Int), iv (m : Int), iv (b : Int), .func (.func fc) #[] #[]] W (⟨g, 29, fl d n junk⟩ :: HR) (fun v H => ∃ d2, H = ⟨g, 29, fl d2 n junk⟩ :: HR ∧ Mv n a b d d2 ∧ So lt a b d2) := by
  intro k
  induction k using Nat.strongRecOn with
  | _ k ih =>
    intro a m b d hk h1 h2 h3 hP hS1 hS2
    exact symStep g n c junk HR W fc hn lt hlt hok hf k (fun a m b d hlk h1 h2 h3 hP hS1 hS2 => ih _ hlk a m b d rfl h1 h2 h3 hP hS1 hS2) a m b d hk h1 h2 h3 hP hS1 hS2

end Go.Proofs.Ytapcgokcfmklbaa

namespace Go.Proofs.Ytapcgokcfmklbaa
open Go Go.Proofs Go.RowKit

theorem ok112 : callOK Try.prog 112 = true := by kernel_rfl
theorem ok147 : callOK Try.prog 147 = true := by kernel_rfl

theorem blk1 {bs q A : Nat} (hA : A = q * (2 * bs)) : (2 * q) * bs = A ∧ (2 * q + 1) * bs = A + bs ∧ (2 * q + 1 + 1) * bs = A + 2 * bs ∧ (q + 1) * (2 * bs) = A + 2 * bs := by
  have h1 : (2 * q) * bs = A := by rw [hA, Nat.mul_comm 2 q, Nat.mul_assoc]
  refine ⟨h1, ?_, ?_, ?_⟩
  · rw [Nat.add_mul, h1, Nat.one_mul]
  · rw [Nat.add_mul, Nat.add_mul, h1, Nat.one_mul]; omega
  · rw [Nat.add_mul, ← hA, Nat.one_mul]
/-- the blocks from 2 * q on are still to be merged -/
def Un (lt : Nat → Nat → Bool) (bs n q : Nat) (d : Nat → Nat) : Prop := ∀ p, 2 * q ≤ p → So lt (p * bs) (min ((p + 1) * bs) n) d
theorem Un.one {lt : Nat → Nat → Bool} {bs n q A : Nat} {d : Nat → Nat} (h : Un lt bs n q d) (hA : A = q * (2 * bs)) (hn : A + bs ≤ n) : So lt A (A + bs) d := by
  have h1 := h (2 * q) (Nat.le_refl _)
  rw [(blk1 hA).1, (blk1 hA).2.1, Nat.min_eq_left hn] at h1
  exact h1
theorem Un.two {lt : Nat → Nat → Bool} {bs n q A : Nat} {d : Nat → Nat} (h : Un lt bs n q d) (hA : A = q * (2 * bs)) (hn : A + 2 * bs ≤ n) : So lt (A + bs) (A + 2 * bs) d := by
  have h1 := h (2 * q + 1) (by omega)
  rw [(blk1 hA).2.1, (blk1 hA).2.2.1, Nat.min_eq_left hn] at h1
  exact h1
theorem Un.rest {lt : Nat → Nat → Bool} {bs n q A : Nat} {d : Nat → Nat} (h : Un lt bs n q d) (hA : A = q * (2 * bs)) (hn : n ≤ A + 2 * bs) : So lt (A + bs) n d := by
  have h1 := h (2 * q + 1) (by omega)
  rw [(blk1 hA).2.1, (blk1 hA).2.2.1, Nat.min_eq_right hn] at h1
  exact h1
theorem Un.all {lt : Nat → Nat → Bool} {bs n q A : Nat} {d : Nat → Nat} (h : Un lt bs n q d) (hA : A = q * (2 * bs)) (hn : n ≤ A + bs) : So lt A n d := by
  have h1 := h (2 * q) (Nat.le_refl _)
  rw [(blk1 hA).1, (blk1 hA).2.1, Nat.min_eq_right hn] at h1
  exact h1
theorem Un.next {lt : Nat → Nat → Bool} {bs n q A : Nat} {d d' : Nat → Nat} (h : Un lt bs n q d) (hA : A = q * (2 * bs)) (m : Mv n A (A + 2 * bs) d d') : Un lt bs n (q + 1) d' := fun p hp => by
  have h1 : (2 * q + 1 + 1) * bs ≤ p * bs := Nat.mul_le_mul_right _ (by omega)
  rw [(blk1 hA).2.2.1] at h1
  exact (h p (by omega)).same fun i hi _ => m.1 i (.inr (by omega))
theorem Bq.next {lt : Nat → Nat → Bool} {bs n q A : Nat} {d d' : Nat → Nat} (h : Bq lt (2 * bs) q d) (hA : A = q * (2 * bs)) (m : Mv n A (A + 2 * bs) d d') (s : So lt A (A + 2 * bs) d') : Bq lt (2 * bs) (q + 1) d' := by
  rw [hA] at m s
  refine Bq.succ h m ?_
  rw [(blk1 hA).2.2.2, hA]
  exact s
theorem Bq.fin {lt : Nat → Nat → Bool} {bs n q A : Nat} {d d' : Nat → Nat} (h : Bq lt (2 * bs) q d) (hA : A = q * (2 * bs)) (hn : n ≤ A + 2 * bs) (m : Mv n A n d d') (s : So lt A n d') : Bs lt (2 * bs) n d' := by
  have h1 := (blk1 hA).2.2.2
  rw [hA] at m s
  exact Bq.last h m s (by rw [h1]; exact hn)
theorem Bq.fst {lt : Nat → Nat → Bool} {q : Nat} {n : Nat} {d d' : Nat → Nat} (h : Bq lt 20 q d) (m : Mv n (q * 20) (q * 20 + 20) d d') (s : So lt (q * 20) (q * 20 + 20) d') : Bq lt 20 (q + 1) d' := by
  refine Bq.succ h m ?_
  rw [Nat.add_mul, Nat.one_mul]; exact s
theorem Bs.un {lt : Nat → Nat → Bool} {bs n : Nat} {d : Nat → Nat} (h : Bs lt bs n d) : Un lt bs n 0 d := fun p _ => h p

set_option maxHeartbeats 4000000 in
set_option maxRecDepth 100000 in
theorem stable_ (g n c : Nat) (junk : List Value) (HR : HL) (W : World) (fc : FuncId) (hn : n ≤ 1000000) (lt : Nat → Nat → Bool) (hlt : Ord lt) (hok : callOK Try.prog fc = true) (hf : ∀ wd Hd, Own W wd Hd → ∀ x y : Nat, x < 4294967296 → y < 4294967296 → Fn_ Try.prog fc #[flt x, flt y] wd (fun v H => ∃ r : Int, v = iv r ∧ decide (r < 0) = lt x y ∧ H = [])) (d : Nat → Nat) (hP : ∀ i, d i < 4294967296) : FnH Try.prog 112 #[.slice (some ⟨g, 0, none⟩) n c, iv (n : Int), .func (.func fc) #[] #[]] W (⟨g, 29, fl d n junk⟩ :: HR) (fun v H => ∃ d2, H = ⟨g, 29, fl d2 n junk⟩ :: HR ∧ Mv n 0 n d d2 ∧ So lt 0 n d2) := by
  refine FnH.intro Try.func112 rfl rfl (by rfl) ?_
  refine CS.seq ?_
  refine CS.region ?_
  refine RS.q rfl (QO.assign) ?_
  refine RS.nil ?_
  refine thenC_n ?_
  refine CS.seq ?_
  refine CS.region ?_
  refine RS.q rfl (QO.move) ?_
  refine RS.q rfl (QO.assign) ?_
  refine RS.q rfl (QO.assign) ?_
  refine RS.nil ?_
  refine thenC_n ?_
  refine CS.seq ?_
  refine CS.block ?_
  refine CS.loop (X := (Nat → Nat) × Nat) (7 :: 8 :: 11 :: 12 :: 13 :: 14 :: 15 :: 16 :: 17 :: 18 :: 19 :: 20 :: 21 :: 22 :: []) (fun z => [(7, iv ((z.2 * 20 : Nat) : Int)), (8, iv ((z.2 * 20 + 20 : Nat) : Int))]) (fun z => ⟨g, 29, fl z.1 n junk⟩ :: HR) (fun z => z.2 * 20 ≤ n ∧ Mv n 0 n d z.1 ∧ Bq lt 20 z.2 z.1) (fun z => n - z.2 * 20) (d, 0) ⟨(by show 0 * 20 ≤ n; omega), Mv.refl _ _ _ _, Bq.zero _ _ _⟩ ?_ ?_ ?_
  · exact kn_cons rfl (kn_cons rfl kn_nil)
  · exact (by repeat (first | exact List.Sublist.refl _ | exact List.nil_sublist _ | refine List.Sublist.cons_cons _ ?_ | refine List.Sublist.cons _ ?_ | exact Sbp.refl | exact Sbp.nil | refine Sbp.cons (by repeat (first | exact Rem.head | apply Rem.tail)) ?_ | exact Sbp.app | refine Sbp.skip ?_ | exact List.sublist_append_left _ _ | exact List.sublist_append_right _ _))
  · intro z gj2 hz
    obtain ⟨D, q⟩ := z
    obtain ⟨hq, hM, hB⟩ := hz
    replace hq : q * 20 ≤ n := hq
    replace hM : Mv n 0 n d D := hM
    replace hB : Bq lt 20 q D := hB
    have hD := hM.lt32 hP
    show CS _ _ _ _ _ (puts (mix _ _ _) [(7, iv ((q * 20 : Nat) : Int)), (8, iv ((q * 20 + 20 : Nat) : Int))]) (⟨g, 29, fl D n junk⟩ :: HR)
    refine CS.seq ?_
    refine CS.seq ?_
    refine CS.region ?_
    refine RS.q rfl (QO.move) ?_
    refine RS.q rfl (QO.move) ?_
    refine RS.q rfl (QO.leq (by rfl) (by rfl)) ?_
    refine RS.nil ?_
    refine thenC_n ?_
    refine CS.cond (by rfl) (fun hb0 => ?_) (fun hb0 => ?_)
    · have hb0p := of_decide_eq_true hb0
      refine CS.skip ?_
      refine thenC_n ?_
      refine CS.block ?_
      refine CS.seq ?_
      refine CS.region ?_
      refine RS.q rfl (QO.move) ?_
      refine RS.q rfl (QO.move) ?_
      refine RS.q rfl (QO.move) ?_
      refine RS.q rfl (QO.move) ?_
      refine RS.callH (⟨g, 29, fl D n junk⟩ :: HR) rfl (by rfl) ok147 (by rfl) (by repeat (first | exact List.Sublist.refl _ | exact List.nil_sublist _ | refine List.Sublist.cons_cons _ ?_ | refine List.Sublist.cons _ ?_ | exact Sbp.refl | exact Sbp.nil | refine Sbp.cons (by repeat (first | exact Rem.head | apply Rem.tail)) ?_ | exact Sbp.app | refine Sbp.skip ?_ | exact List.sublist_append_left _ _ | exact List.sublist_append_right _ _)) (fun w ho => insertion_ g n c junk HR _ fc hn lt hlt hok hf (q * 20) (q * 20 + 20) D hD (by omega) (by omega)) ?_
      rintro _ _ ⟨d2, rfl, m2, s2⟩
      refine RS.nil ?_
      refine thenC_n ?_
      refine CS.seq ?_
      refine CS.region ?_
      refine RS.q rfl (QO.move) ?_
      refine RS.q rfl (QO.assign) ?_
      refine RS.nil ?_
      refine thenC_n ?_
      refine CS.region ?_
      refine RS.q rfl (QO.move) ?_
      refine RS.q rfl (QO.move) ?_
      first | (refine RS.q rfl (QO.add (by rfl) (by rfl) (by omega) (by omega)) ?_) | (refine RS.q rfl (QO.ibin (by rfl) (by rfl) trivial) ?_)
      refine RS.q rfl (QO.assign) ?_
      refine RS.nil ?_
      refine blockC_n ?_
      refine loopQ_n (by intro t ht; repeat (first | with_reducible exact rfl | exact frame_puts ht (frame_mix ht) _ rfl | (refine frame_put rfl ht ?_) | (refine frame_puts ht ?_ _ rfl) | exact frame_mix ht | (refine frame_mix2 rfl ht ?_) | exact rfl)) ?_
      exact ⟨(d2, q + 1), ⟨(by show (q + 1) * 20 ≤ n; omega), hM.trans (m2.mono (Nat.zero_le _) (by omega)), hB.fst m2 s2⟩, by show n - (q + 1) * 20 < n - q * 20; omega, kn_cons (congrArg iv (by show ((q * 20 + 20 : Nat) : Int) = (((q + 1) * 20 : Nat) : Int); omega)) (kn_cons (congrArg iv (by show ((q * 20 + 20 : Nat) : Int) + 20 = (((q + 1) * 20 + 20 : Nat) : Int); omega)) kn_nil), (by repeat (first | exact List.Sublist.refl _ | exact List.nil_sublist _ | refine List.Sublist.cons_cons _ ?_ | refine List.Sublist.cons _ ?_ | exact Sbp.refl | exact Sbp.nil | refine Sbp.cons (by repeat (first | exact Rem.head | apply Rem.tail)) ?_ | exact Sbp.app | refine Sbp.skip ?_ | exact List.sublist_append_left _ _ | exact List.sublist_append_right _ _))⟩
    · have hb0p := of_decide_eq_false hb0
      refine CS.exit ?_
      refine thenC_x ?_
      refine loopQ_x ?_
      refine blockC_x ?_
      refine thenC_n ?_
      refine CS.seq ?_
      refine CS.region ?_
      refine RS.q rfl (QO.move) ?_
      refine RS.q rfl (QO.move) ?_
      refine RS.q rfl (QO.move) ?_
      refine RS.q rfl (QO.move) ?_
      refine RS.callH (⟨g, 29, fl D n junk⟩ :: HR) rfl (by rfl) ok147 (by rfl) (by repeat (first | exact List.Sublist.refl _ | exact List.nil_sublist _ | refine List.Sublist.cons_cons _ ?_ | refine List.Sublist.cons _ ?_ | exact Sbp.refl | exact Sbp.nil | refine Sbp.cons (by repeat (first | exact Rem.head | apply Rem.tail)) ?_ | exact Sbp.app | refine Sbp.skip ?_ | exact List.sublist_append_left _ _ | exact List.sublist_append_right _ _)) (fun w ho => insertion_ g n c junk HR _ fc hn lt hlt hok hf (q * 20) n D hD (by omega) (by omega)) ?_
      rintro _ _ ⟨d2, rfl, m2, s2⟩
      have hM2 : Mv n 0 n d d2 := hM.trans (m2.mono (Nat.zero_le _) (Nat.le_refl _))
      have hB2 : Bs lt 20 n d2 := Bq.last hB m2 s2 (by omega)
      refine RS.nil ?_
      refine thenC_n ?_
      refine CS.block ?_
      refine CS.loop (X := (Nat → Nat) × Nat) (6 :: 7 :: 8 :: 9 :: 28 :: 29 :: 30 :: 31 :: 32 :: 33 :: 34 :: 35 :: 36 :: 37 :: 38 :: 39 :: 40 :: 41 :: 42 :: 43 :: 44 :: 45 :: 46 :: 47 :: 48 :: 49 :: 50 :: 51 :: 52 :: 53 :: 54 :: 55 :: 56 :: 57 :: 58 :: 59 :: 60 :: 61 :: 62 :: []) (fun z => [(6, iv (z.2 : Int))]) (fun z => ⟨g, 29, fl z.1 n junk⟩ :: HR) (fun z => (20 ≤ z.2 ∧ z.2 ≤ 2000000) ∧ Mv n 0 n d z.1 ∧ Bs lt z.2 n z.1) (fun z => 2 * n - z.2) (d2, 20) ⟨(by show 20 ≤ 20 ∧ 20 ≤ 2000000; omega), hM2, hB2⟩ ?_ ?_ ?_
      · exact kn_cons rfl kn_nil
      · exact (by repeat (first | exact List.Sublist.refl _ | exact List.nil_sublist _ | refine List.Sublist.cons_cons _ ?_ | refine List.Sublist.cons _ ?_ | exact Sbp.refl | exact Sbp.nil | refine Sbp.cons (by repeat (first | exact Rem.head | apply Rem.tail)) ?_ | exact Sbp.app | refine Sbp.skip ?_ | exact List.sublist_append_left _ _ | exact List.sublist_append_right _ _))
      · intro z gj7 hz
        obtain ⟨D3, bs⟩ := z
        obtain ⟨hbs, hM3, hB3⟩ := hz
        replace hbs : 20 ≤ bs ∧ bs ≤ 2000000 := hbs
        replace hM3 : Mv n 0 n d D3 := hM3
        replace hB3 : Bs lt bs n D3 := hB3
        show CS _ _ _ _ _ (puts (mix _ _ _) [(6, iv (bs : Int))]) (⟨g, 29, fl D3 n junk⟩ :: HR)
        refine CS.seq ?_
        refine CS.seq ?_
        refine CS.region ?_
        refine RS.q rfl (QO.move) ?_
        refine RS.q rfl (QO.move) ?_
        refine RS.q rfl (QO.lss (by rfl) (by rfl)) ?_
        refine RS.nil ?_
        refine thenC_n ?_
        refine CS.cond (by rfl) (fun hb1 => ?_) (fun hb1 => ?_)
        · have hb1p := of_decide_eq_true hb1
          refine CS.skip ?_
          refine thenC_n ?_
          refine CS.block ?_
          refine CS.seq ?_
          refine CS.region ?_
          refine RS.q rfl (QO.move) ?_
          first | (refine RS.qv rfl (QO.mul (by rfl) (by rfl) (by omega) (by omega)) (congrArg iv (show (2 : Int) * (bs : Int) = ((2 * bs : Nat) : Int) by omega)) ?_) | (refine RS.qv rfl (QO.ibin (by rfl) (by rfl) trivial) (congrArg iv (show (2 : Int) * (bs : Int) = ((2 * bs : Nat) : Int) by omega)) ?_)
          refine RS.q rfl (QO.assign) ?_
          refine RS.q rfl (QO.assign) ?_
          refine RS.nil ?_
          refine thenC_n ?_
          refine CS.seq ?_
          refine CS.block ?_
          refine CS.loop (X := (Nat → Nat) × Nat × Nat) (7 :: 8 :: 33 :: 34 :: 35 :: 36 :: 37 :: 38 :: 39 :: 40 :: 41 :: 42 :: 43 :: 44 :: 45 :: 46 :: 47 :: 48 :: []) (fun y => [(7, iv (y.2.2 : Int)), (8, iv ((y.2.2 + 2 * bs : Nat) : Int))]) (fun y => ⟨g, 29, fl y.1 n junk⟩ :: HR) (fun y => y.2.2 = y.2.1 * (2 * bs) ∧ y.2.2 ≤ n ∧ Mv n 0 n d y.1 ∧ Bq lt (2 * bs) y.2.1 y.1 ∧ Un lt bs n y.2.1 y.1) (fun y => n - y.2.2) (D3, 0, 0) ⟨(by show 0 = 0 * (2 * bs); omega), Nat.zero_le _, hM3, Bq.zero _ _ _, hB3.un⟩ ?_ ?_ ?_
          · exact kn_cons rfl (kn_cons (congrArg iv (show ((2 * bs : Nat) : Int) = ((0 + 2 * bs : Nat) : Int) by omega)) kn_nil)
          · exact (by repeat (first | exact List.Sublist.refl _ | exact List.nil_sublist _ | refine List.Sublist.cons_cons _ ?_ | refine List.Sublist.cons _ ?_ | exact Sbp.refl | exact Sbp.nil | refine Sbp.cons (by repeat (first | exact Rem.head | apply Rem.tail)) ?_ | exact Sbp.app | refine Sbp.skip ?_ | exact List.sublist_append_left _ _ | exact List.sublist_append_right _ _))
          · intro y gj9 hz
            obtain ⟨E, q, A⟩ := y
            obtain ⟨hA, hAn, hM4, hB4, hU⟩ := hz
            replace hA : A = q * (2 * bs) := hA
            replace hAn : A ≤ n := hAn
            replace hM4 : Mv n 0 n d E := hM4
            replace hB4 : Bq lt (2 * bs) q E := hB4
            replace hU : Un lt bs n q E := hU
            have hE := hM4.lt32 hP
            show CS _ _ _ _ _ (puts (mix _ _ _) [(7, iv (A : Int)), (8, iv ((A + 2 * bs : Nat) : Int))]) (⟨g, 29, fl E n junk⟩ :: HR)
            refine CS.seq ?_
            refine CS.seq ?_
            refine CS.region ?_
            refine RS.q rfl (QO.move) ?_
            refine RS.q rfl (QO.move) ?_
            refine RS.q rfl (QO.leq (by rfl) (by rfl)) ?_
            refine RS.nil ?_
            refine thenC_n ?_
            refine CS.cond (by rfl) (fun hb2 => ?_) (fun hb2 => ?_)
            · have hb2p := of_decide_eq_true hb2
              refine CS.skip ?_
              refine thenC_n ?_
              refine CS.block ?_
              refine CS.seq ?_
              refine CS.region ?_
              refine RS.q rfl (QO.move) ?_
              refine RS.q rfl (QO.move) ?_
              refine RS.q rfl (QO.move) ?_
              refine RS.q rfl (QO.move) ?_
              first | (refine RS.qv rfl (QO.add (by rfl) (by rfl) (by omega) (by omega)) (congrArg iv (show (A : Int) + (bs : Int) = ((A + bs : Nat) : Int) by omega)) ?_) | (refine RS.qv rfl (QO.ibin (by rfl) (by rfl) trivial) (congrArg iv (show (A : Int) + (bs : Int) = ((A + bs : Nat) : Int) by omega)) ?_)
              refine RS.q rfl (QO.move) ?_
              refine RS.q rfl (QO.move) ?_
              refine RS.callH (⟨g, 29, fl E n junk⟩ :: HR) rfl (by rfl) ok148 (by rfl) (by repeat (first | exact List.Sublist.refl _ | exact List.nil_sublist _ | refine List.Sublist.cons_cons _ ?_ | refine List.Sublist.cons _ ?_ | exact Sbp.refl | exact Sbp.nil | refine Sbp.cons (by repeat (first | exact Rem.head | apply Rem.tail)) ?_ | exact Sbp.app | refine Sbp.skip ?_ | exact List.sublist_append_left _ _ | exact List.sublist_append_right _ _)) (fun w ho => symMerge_ g n c junk HR _ fc hn lt hlt hok hf ((A + 2 * bs) - A) A (A + bs) (A + 2 * bs) E rfl (by omega) (by omega) (by omega) hE (hU.one hA (by omega)) (hU.two hA (by omega))) ?_
              rintro _ _ ⟨d2, rfl, m2, s2⟩
              refine RS.nil ?_
              refine thenC_n ?_
              refine CS.seq ?_
              refine CS.region ?_
              refine RS.q rfl (QO.move) ?_
              refine RS.q rfl (QO.assign) ?_
              refine RS.nil ?_
              refine thenC_n ?_
              refine CS.region ?_
              refine RS.q rfl (QO.move) ?_
              refine RS.q rfl (QO.move) ?_
              first | (refine RS.qv rfl (QO.mul (by rfl) (by rfl) (by omega) (by omega)) (congrArg iv (show (2 : Int) * (bs : Int) = ((2 * bs : Nat) : Int) by omega)) ?_) | (refine RS.qv rfl (QO.ibin (by rfl) (by rfl) trivial) (congrArg iv (show (2 : Int) * (bs : Int) = ((2 * bs : Nat) : Int) by omega)) ?_)
              first | (refine RS.q rfl (QO.add (by rfl) (by rfl) (by omega) (by omega)) ?_) | (refine RS.q rfl (QO.ibin (by rfl) (by rfl) trivial) ?_)
              refine RS.q rfl (QO.assign) ?_
              refine RS.nil ?_
              refine blockC_n ?_
              refine loopQ_n (by intro t ht; repeat (first | with_reducible exact rfl | exact frame_puts ht (frame_mix ht) _ rfl | (refine frame_put rfl ht ?_) | (refine frame_puts ht ?_ _ rfl) | exact frame_mix ht | (refine frame_mix2 rfl ht ?_) | exact rfl)) ?_
              exact ⟨(d2, q + 1, A + 2 * bs), ⟨(blk1 hA).2.2.2.symm, (by show A + 2 * bs ≤ n; omega), hM4.trans (m2.mono (Nat.zero_le _) (by omega)), hB4.next hA m2 s2, hU.next hA m2⟩, by show n - (A + 2 * bs) < n - A; omega, kn_cons rfl (kn_cons (congrArg iv (by show ((A + 2 * bs : Nat) : Int) + ((2 * bs : Nat) : Int) = ((A + 2 * bs + 2 * bs : Nat) : Int); omega)) kn_nil), (by repeat (first | exact List.Sublist.refl _ | exact List.nil_sublist _ | refine List.Sublist.cons_cons _ ?_ | refine List.Sublist.cons _ ?_ | exact Sbp.refl | exact Sbp.nil | refine Sbp.cons (by repeat (first | exact Rem.head | apply Rem.tail)) ?_ | exact Sbp.app | refine Sbp.skip ?_ | exact List.sublist_append_left _ _ | exact List.sublist_append_right _ _))⟩
            · have hb2p := of_decide_eq_false hb2
              refine CS.exit ?_
              refine thenC_x ?_
              refine loopQ_x ?_
              refine blockC_x ?_
              refine thenC_n ?_
              refine CS.cut (X := Nat → Nat) (9 :: 49 :: 50 :: 51 :: 52 :: 53 :: 54 :: 55 :: 56 :: 57 :: 58 :: 59 :: 60 :: []) (fun d5 => []) (fun d5 => ⟨g, 29, fl d5 n junk⟩ :: HR) (fun d5 => Mv n 0 n d d5 ∧ Bs lt (2 * bs) n d5) ?_ ?_
              · refine CS.seq ?_
                refine CS.region ?_
                refine RS.q rfl (QO.move) ?_
                refine RS.q rfl (QO.move) ?_
                first | (refine RS.qv rfl (QO.add (by rfl) (by rfl) (by omega) (by omega)) (congrArg iv (show (A : Int) + (bs : Int) = ((A + bs : Nat) : Int) by omega)) ?_) | (refine RS.qv rfl (QO.ibin (by rfl) (by rfl) trivial) (congrArg iv (show (A : Int) + (bs : Int) = ((A + bs : Nat) : Int) by omega)) ?_)
                refine RS.q rfl (QO.assign) ?_
                refine RS.nil ?_
                refine thenC_n ?_
                refine CS.seq ?_
                refine CS.region ?_
                refine RS.q rfl (QO.move) ?_
                refine RS.q rfl (QO.move) ?_
                refine RS.q rfl (QO.lss (by rfl) (by rfl)) ?_
                refine RS.nil ?_
                refine thenC_n ?_
                refine CS.cond (by rfl) (fun hb3 => ?_) (fun hb3 => ?_)
                · have hb3p := of_decide_eq_true hb3
                  refine CS.region ?_
                  refine RS.q rfl (QO.move) ?_
                  refine RS.q rfl (QO.move) ?_
                  refine RS.q rfl (QO.move) ?_
                  refine RS.q rfl (QO.move) ?_
                  refine RS.q rfl (QO.move) ?_
                  refine RS.callH (⟨g, 29, fl E n junk⟩ :: HR) rfl (by rfl) ok148 (by rfl) (by repeat (first | exact List.Sublist.refl _ | exact List.nil_sublist _ | refine List.Sublist.cons_cons _ ?_ | refine List.Sublist.cons _ ?_ | exact Sbp.refl | exact Sbp.nil | refine Sbp.cons (by repeat (first | exact Rem.head | apply Rem.tail)) ?_ | exact Sbp.app | refine Sbp.skip ?_ | exact List.sublist_append_left _ _ | exact List.sublist_append_right _ _)) (fun w ho => symMerge_ g n c junk HR _ fc hn lt hlt hok hf (n - A) A (A + bs) n E rfl (by omega) (by omega) (by omega) hE (hU.one hA (by omega)) (hU.rest hA (by omega))) ?_
                  rintro _ _ ⟨d2, rfl, m2, s2⟩
                  refine RS.nil ?_
                  refine cutQ_n (by intro t ht; repeat (first | with_reducible exact rfl | exact frame_puts ht (frame_mix ht) _ rfl | (refine frame_put rfl ht ?_) | (refine frame_puts ht ?_ _ rfl) | exact frame_mix ht | (refine frame_mix2 rfl ht ?_) | exact rfl)) ?_
                  exact ⟨d2, ⟨hM4.trans (m2.mono (Nat.zero_le _) (Nat.le_refl _)), hB4.fin hA (by omega) m2 s2⟩, (by repeat (first | exact kn_nil | refine kn_cons (by rfl) ?_)), (by repeat (first | exact List.Sublist.refl _ | exact List.nil_sublist _ | refine List.Sublist.cons_cons _ ?_ | refine List.Sublist.cons _ ?_ | exact Sbp.refl | exact Sbp.nil | refine Sbp.cons (by repeat (first | exact Rem.head | apply Rem.tail)) ?_ | exact Sbp.app | refine Sbp.skip ?_ | exact List.sublist_append_left _ _ | exact List.sublist_append_right _ _))⟩
                · have hb3p := of_decide_eq_false hb3
                  refine CS.skip ?_
                  refine cutQ_n (by intro t ht; repeat (first | with_reducible exact rfl | exact frame_puts ht (frame_mix ht) _ rfl | (refine frame_put rfl ht ?_) | (refine frame_puts ht ?_ _ rfl) | exact frame_mix ht | (refine frame_mix2 rfl ht ?_) | exact rfl)) ?_
                  exact ⟨E, ⟨hM4, hB4.fin hA (by omega) (Mv.refl _ _ _ _) (hU.all hA (by omega))⟩, (by repeat (first | exact kn_nil | refine kn_cons (by rfl) ?_)), (by repeat (first | exact List.Sublist.refl _ | exact List.nil_sublist _ | refine List.Sublist.cons_cons _ ?_ | refine List.Sublist.cons _ ?_ | exact Sbp.refl | exact Sbp.nil | refine Sbp.cons (by repeat (first | exact Rem.head | apply Rem.tail)) ?_ | exact Sbp.app | refine Sbp.skip ?_ | exact List.sublist_append_left _ _ | exact List.sublist_append_right _ _))⟩
              · intro d5 gj hz
                obtain ⟨hM5, hB5⟩ := hz
                refine CS.region ?_
                refine RS.q rfl (QO.move) ?_
                first | (refine RS.q rfl (QO.mul (by rfl) (by rfl) (by omega) (by omega)) ?_) | (refine RS.q rfl (QO.ibin (by rfl) (by rfl) trivial) ?_)
                refine RS.q rfl (QO.assign) ?_
                refine RS.nil ?_
                refine blockC_n ?_
                refine loopQ_n (by intro t ht; repeat (first | with_reducible exact rfl | exact frame_puts ht (frame_mix ht) _ rfl | (refine frame_put rfl ht ?_) | (refine frame_puts ht ?_ _ rfl) | exact frame_mix ht | (refine frame_mix2 rfl ht ?_) | exact rfl)) ?_
                exact ⟨(d5, 2 * bs), ⟨(by show 20 ≤ 2 * bs ∧ 2 * bs ≤ 2000000; omega), hM5, hB5⟩, by show 2 * n - 2 * bs < 2 * n - bs; omega, kn_cons (congrArg iv (by show (bs : Int) * 2 = ((2 * bs : Nat) : Int); omega)) kn_nil, (by repeat (first | exact List.Sublist.refl _ | exact List.nil_sublist _ | refine List.Sublist.cons_cons _ ?_ | refine List.Sublist.cons _ ?_ | exact Sbp.refl | exact Sbp.nil | refine Sbp.cons (by repeat (first | exact Rem.head | apply Rem.tail)) ?_ | exact Sbp.app | refine Sbp.skip ?_ | exact List.sublist_append_left _ _ | exact List.sublist_append_right _ _))⟩
        · have hb1p := of_decide_eq_false hb1
          refine CS.exit ?_
          refine thenC_x ?_
          refine loopQ_x ?_
          refine blockC_x ?_
          refine retQ.mk (H' := ⟨g, 29, fl D3 n junk⟩ :: HR) (.inl rfl) RVs.nil (by repeat (first | exact List.Sublist.refl _ | exact List.nil_sublist _ | refine List.Sublist.cons_cons _ ?_ | refine List.Sublist.cons _ ?_ | exact Sbp.refl | exact Sbp.nil | refine Sbp.cons (by repeat (first | exact Rem.head | apply Rem.tail)) ?_ | exact Sbp.app | refine Sbp.skip ?_ | exact List.sublist_append_left _ _ | exact List.sublist_append_right _ _)) ?_
          exact ⟨D3, rfl, hM3, hB3.done (by omega)⟩

set_option maxHeartbeats 4000000 in
set_option maxRecDepth 100000 in
theorem sortStable_ (g n c : Nat) (junk : List Value) (HR : HL) (W : World) (fc : FuncId) (hn : n ≤ 1000000) (lt : Nat → Nat → Bool) (hlt : Ord lt) (hok : callOK Try.prog fc = true) (hf : ∀ wd Hd, Own W wd Hd → ∀ x y : Nat, x < 4294967296 → y < 4294967296 → Fn_ Try.prog fc #[flt x, flt y] wd (fun v H => ∃ r : Int, v = iv r ∧ decide (r < 0) = lt x y ∧ H = [])) (d : Nat → Nat) (hP : ∀ i, d i < 4294967296) : FnH Try.prog 56 #[.slice (some ⟨g, 0, none⟩) n c, .func (.func fc) #[] #[]] W (⟨g, 29, fl d n junk⟩ :: HR) (fun v H => ∃ d2, H = ⟨g, 29, fl d2 n junk⟩ :: HR ∧ Mv n 0 n d d2 ∧ So lt 0 n d2) := by
  refine FnH.intro Try.func56 rfl rfl (by rfl) ?_
  refine CS.region ?_
  refine RS.q rfl (QO.move) ?_
  refine RS.q rfl (QO.move) ?_
  refine RS.q rfl (QO.lenS Try.underlying24 (by rfl)) ?_
  refine RS.q rfl (QO.move) ?_
  refine RS.callH (⟨g, 29, fl d n junk⟩ :: HR) rfl (by rfl) ok112 (by rfl) (by repeat (first | exact List.Sublist.refl _ | exact List.nil_sublist _ | refine List.Sublist.cons_cons _ ?_ | refine List.Sublist.cons _ ?_ | exact Sbp.refl | exact Sbp.nil | refine Sbp.cons (by repeat (first | exact Rem.head | apply Rem.tail)) ?_ | exact Sbp.app | refine Sbp.skip ?_ | exact List.sublist_append_left _ _ | exact List.sublist_append_right _ _)) (fun w ho => stable_ g n c junk HR _ fc hn lt hlt hok hf d hP) ?_
  rintro _ _ ⟨d2, rfl, m2, s2⟩
  refine RS.nil ?_
  refine retQ.mk (H' := ⟨g, 29, fl d2 n junk⟩ :: HR) (.inl rfl) RVs.nil (by repeat (first | exact List.Sublist.refl _ | exact List.nil_sublist _ | refine List.Sublist.cons_cons _ ?_ | refine List.Sublist.cons _ ?_ | exact Sbp.refl | exact Sbp.nil | refine Sbp.cons (by repeat (first | exact Rem.head | apply Rem.tail)) ?_ | exact Sbp.app | refine Sbp.skip ?_ | exact List.sublist_append_left _ _ | exact List.sublist_append_right _ _)) ?_
  exact ⟨d2, rfl, m2, s2⟩

end Go.Proofs.Ytapcgokcfmklbaa

namespace Go.Proofs.Ytapcgokcfmklbaa
open Go Go.RowKit

theorem and64_nat {u v : Nat} (hu : u < 9223372036854775808) (hv : v < 9223372036854775808) : and64 (u : Int) (v : Int) = ((u &&& v : Nat) : Int) := by
  unfold and64
  have a1 : ∀ x : Nat, x < 9223372036854775808 → (BitVec.ofInt 64 (x : Int)).toNat = x := fun x hx => by
    rw [BitVec.toNat_ofInt]; omega
  rw [BitVec.toNat_and, a1 u hu, a1 v hv]
  have h1 : u &&& v ≤ u := Nat.and_le_left
  exact w64 (by omega) (by omega)
theorem and31_0 {u : Nat} (h : u < 2147483648) : u &&& 2147483648 = 0 := by
  have p31 : (2 : Nat) ^ 31 = 2147483648 := by decide
  rw [← p31] at h ⊢
  apply Nat.eq_of_testBit_eq
  intro i
  rw [Nat.testBit_and, Nat.testBit_two_pow, Nat.zero_testBit]
  by_cases e : 31 = i
  · subst e
    rw [Nat.testBit_lt_two_pow h]
    rfl
  · rw [decide_eq_false e, Bool.and_false]
theorem and31_1 {u : Nat} (h : 2147483648 ≤ u) (h2 : u < 4294967296) : u &&& 2147483648 ≠ 0 := by
  have p31 : (2 : Nat) ^ 31 = 2147483648 := by decide
  intro e
  have h3 : (u &&& 2 ^ 31).testBit 31 = false := by rw [p31, e]; exact Nat.zero_testBit 31
  rw [Nat.testBit_and, Nat.testBit_two_pow, Nat.testBit_eq_decide_div_mod_eq, p31] at h3
  have h4 : u / 2147483648 = 1 := by omega
  rw [h4] at h3
  simp at h3
theorem plV_eq {u : Nat} (hu : u < 4294967296) : plV u = if 2147483648 ≤ u then 2147483647 - (u : Int) else (u : Int) := by
  have p31 : (2 : Nat) ^ 31 = 2147483648 := by decide
  have h1 : and64 (u : Int) ((2147483648 : Nat) : Int) = ((u &&& 2147483648 : Nat) : Int) := and64_nat (by omega) (by omega)
  have h2 : and64 (u : Int) ((2147483647 : Nat) : Int) = ((u &&& 2147483647 : Nat) : Int) := and64_nat (by omega) (by omega)
  have e2 := Nat.and_two_pow_sub_one_eq_mod u 31
  rw [p31] at e2
  rw [show (2147483648 : Nat) - 1 = 2147483647 from rfl] at e2
  rw [e2] at h2
  unfold plV
  rw [show (2147483648 : Int) = ((2147483648 : Nat) : Int) from rfl, show (2147483647 : Int) = ((2147483647 : Nat) : Int) from rfl, h1, h2]
  by_cases h : 2147483648 ≤ u
  · have h5 := and31_1 h hu
    rw [if_pos (by omega), if_pos h]
    omega
  · rw [and31_0 (by omega), if_neg (by simp), if_neg h]
/-- where a single stands -/
def exK (x : Nat) : Int := if nan32 x = true then 1099511627776 else plV x
def exL (x y : Nat) : Bool := decide (exK x < exK y)
theorem exO : Ord exL := by
  constructor
  · intro x y z h1 h2
    unfold exL at *
    have := of_decide_eq_false h1
    have := of_decide_eq_false h2
    exact decide_eq_false (by omega)
  · intro x y h
    unfold exL at *
    have := of_decide_eq_true h
    exact decide_eq_false (by omega)
theorem exK_nan {x : Nat} (h : nan32 x = true) : exK x = 1099511627776 := if_pos h
theorem exK_num {x : Nat} (h : nan32 x = false) : exK x = plV x := if_neg (by rw [h]; decide)
theorem exK_inj {x y : Nat} (hx : x < 4294967296) (hy : y < 4294967296) (cx : cl x = x) (cy : cl y = y) (h1 : exL x y = false) (h2 : exL y x = false) : x = y := by
  unfold exL at h1 h2
  have e1 := of_decide_eq_false h1
  have e2 := of_decide_eq_false h2
  have bx := plV_bd hx
  have by_ := plV_bd hy
  cases nx : nan32 x <;> cases ny : nan32 y
  · rw [exK_num nx, exK_num ny, plV_eq hx, plV_eq hy] at e1 e2
    split at e1 <;> split at e1 <;> simp_all <;> omega
  · rw [exK_num nx, exK_nan ny] at e1 e2; omega
  · rw [exK_nan nx, exK_num ny] at e1 e2; omega
  · rw [← cx, ← cy, cl_nan nx, cl_nan ny]
theorem perm_mem {n : Nat} {d d' : Nat → Nat} (h : (lst d' n).Perm (lst d n)) {j : Nat} (hj : j < n) : ∃ i, i < n ∧ d' i = d j := by
  have h1 : d j ∈ lst d n := List.mem_of_getElem? (lst_at d hj)
  have h2 := h.mem_iff.2 h1
  unfold lst at h2
  obtain ⟨i, hi, e⟩ := List.mem_map.1 h2
  exact ⟨i, List.mem_range.1 hi, e⟩
end Go.Proofs.Ytapcgokcfmklbaa

namespace Go.Proofs.Ytapcgokcfmklbaa
open Go Go.RowKit

/-- the string of these bytes -/
abbrev sv (l : List UInt8) : Value := .string ⟨l.toArray⟩
/-- bytes as cells -/
def bc (l : List UInt8) : List Value := l.map fun b => Value.int .u8 (b.toNat : Int)
theorem bs_toList (l : List UInt8) : (⟨l.toArray⟩ : ByteArray).toList = l := by rw [ByteArray.toList_eq]
section
variable {P : Program} {W : World} {H : HL} {e : Env} {x y : Operand} {t t' ty : TypeId} {l m : List UInt8}
end
def u8ok (P : Program) (el : TypeId) : Bool := match P.info? el with
  | some i => (match i.zero with | some (.int .u8 0) => true | _ => false) && i.size == 1 && i.bytes == 1
  | none => false
section
variable {P : Program} {W : World} {n : Nat} {ops : Array Oper} {Q : Env → HL → Prop} {rest : List Oper} {e : Env} {H : HL}
variable {d : Tmp} {ty t t2 : TypeId} {pos : String} {af : Array Edge} {x y : Operand} {v : Value}
end
end Go.Proofs.Ytapcgokcfmklbaa

namespace Go.Proofs.Ytapcgokcfmklbaa
open Go Go.RowKit

/-- a field's value -/
inductive Fd where
  | i (z : Int)
  | s (l : List UInt8)
  | f (b : Nat)
  | b (x : Bool)
def Fd.v : Fd → Value
  | .i z => iv z
  | .s l => sv l
  | .f n => flt n
  | .b x => .bool x
def Fd.k : Fd → Nat
  | .i _ => 0
  | .s _ => 1
  | .f _ => 2
  | .b _ => 3
def Fd.eq : Fd → Fd → Bool
  | .i z, .i w => z == w
  | .s l, .s m => l == m
  | .f m, .f n => fcmpB .eql m n
  | .b x, .b y => x == y
  | _, _ => false
def allEq : List Fd → List Fd → Bool
  | [], [] => true
  | a :: l, b :: m => a.eq b && allEq l m
  | _, _ => false
def tyKind (P : Program) (t : TypeId) : Nat :=
  match P.underlying t with
  | some (.int .i64) => 0
  | some .string => 1
  | some (.float .f32) => 2
  | some .bool => 3
  | _ => 9
theorem equal_fd {P : Program} {w : World} {d : Nat} {t : TypeId} {x y : Fd} (hx : tyKind P t = x.k) (hy : tyKind P t = y.k) : (Op.equalIn (d + 1) t x.v y.v).run P w = .ok (x.eq y) w := by
  unfold tyKind at hx hy
  cases x <;> cases y <;> simp only [Fd.k] at hx hy <;> first | (exfalso; omega) | skip
  · have hu : P.underlying t = some (.int .i64) := by split at hx <;> simp_all
    rename_i a c
    exact run_equalIn_int w d t .i64 .i64 a c hu
  · have hu : P.underlying t = some .string := by split at hx <;> simp_all
    rename_i a c
    have h := run_equalIn_string (P := P) w d t ⟨a.toArray⟩ ⟨c.toArray⟩ hu
    rw [bs_toList, bs_toList] at h
    exact h
  · have hu : P.underlying t = some (.float .f32) := by split at hx <;> simp_all
    unfold Op.equalIn
    simp only [Fd.v, Fd.eq, Sem.run_bind, run_underlying hu, Result.andThen_ok, if_true, Sem.run_pure]
    rfl
  · have hu : P.underlying t = some .bool := by split at hx <;> simp_all
    rename_i a c
    exact run_equalIn_bool w d t a c hu
def mixF (P : Program) : Nat → List Field → List Nat → Bool
  | _, [], [] => true
  | o, f :: fs, k :: ks => f.name != "_" && f.offset == o && tyKind P f.type == k && (match tyChk P f.type with | some ([_], false, _) => true | _ => false) && mixF P (o + 1) fs ks
  | _, _, _ => false
def mixT (P : Program) (t : TypeId) (ks : List Nat) : Bool :=
  match P.underlying t with
  | some (.struct fs) => !P.stoodInHeld t && !P.eqGuardType P.depth t && mixF P 0 fs.toList ks
  | _ => false
theorem eqFields_mix {P : Program} {w : World} {d : Nat} {X Y : List Value} : ∀ (fs : List Field) (ks : List Nat) (o : Nat) (zs ws : List Fd), mixF P o fs ks = true → zs.map Fd.k = ks → ws.map Fd.k = ks → X.drop o = zs.map Fd.v → Y.drop o = ws.map Fd.v →
    (Op.eqFields (d + 1) X.toArray Y.toArray fs).run P w = .ok (allEq zs ws) w
  | [], [], o, [], [], _, _, _, _, _ => by simp [Op.eqFields, allEq]
  | f :: fs, k :: ks, o, z :: zs, v :: ws, h, h1, h2, h3, h4 => by
    simp only [mixF, Bool.and_eq_true, bne_iff_ne, ne_eq, beq_iff_eq] at h
    obtain ⟨⟨⟨⟨hn, ho⟩, hu⟩, hc⟩, hr⟩ := h
    simp only [List.map_cons, List.cons.injEq] at h1 h2
    split at hc
    · rename_i q b hc'
      have hx : X[o]? = some z.v := by
        have := congrArg (·[0]?) h3
        simpa using this
      have hy : Y[o]? = some v.v := by
        have := congrArg (·[0]?) h4
        simpa using this
      have h3' : X.drop (o + 1) = zs.map Fd.v := by rw [← List.drop_drop, h3]; rfl
      have h4' : Y.drop (o + 1) = ws.map Fd.v := by rw [← List.drop_drop, h4]; rfl
      have ih := eqFields_mix (w := w) (d := d) fs ks (o + 1) zs ws hr h1.2 h2.2 h3' h4'
      subst ho
      unfold Op.eqFields
      rw [if_pos (by simpa using hn)]
      have e1 : (part f.type X.toArray f.offset).run P w = .ok z.v w := by simp [part, run_ag hc', hx]
      have e2 : (part f.type Y.toArray f.offset).run P w = .ok v.v w := by simp [part, run_ag hc', hy]
      simp only [Sem.run_bind, e1, e2, Result.andThen_ok, equal_fd (P := P) (w := w) (d := d) (hu.trans h1.1.symm) (hu.trans h2.1.symm)]
      cases e : z.eq v
      · simp [allEq, e]
      · simpa [allEq, e] using ih
    · cases hc
  | [], [], _, [], _ :: _, _, _, h2, _, _ => by simp at h2
  | [], [], _, _ :: _, _, _, h1, _, _, _ => by simp at h1
  | [], _ :: _, _, _, _, h, _, _, _, _ => by simp [mixF] at h
  | _ :: _, [], _, _, _, h, _, _, _, _ => by simp [mixF] at h
  | _ :: _, _ :: _, _, [], _, _, h1, _, _, _ => by simp at h1
  | _ :: _, _ :: _, _, _ :: _, [], _, _, h2, _, _ => by simp at h2
theorem equal_mix {P : Program} {t : TypeId} {ks : List Nat} (hn : mixT P t ks = true) {zs ws : List Fd} (h1 : zs.map Fd.k = ks) (h2 : ws.map Fd.k = ks) (w : World) :
    (Op.equalIn 10000 t (.agg (zs.map Fd.v).toArray) (.agg (ws.map Fd.v).toArray)).run P w = .ok (allEq zs ws) w ∧ P.eqGuardType P.depth t = false := by
  unfold mixT at hn
  split at hn
  · rename_i fs hu
    simp only [Bool.and_eq_true, Bool.not_eq_true'] at hn
    obtain ⟨⟨a1, a2⟩, a3⟩ := hn
    refine ⟨?_, a2⟩
    have hf : P.fieldsOf t = fs := by unfold Program.fieldsOf; rw [hu]
    have h9 := run_equalIn_struct w 9999 t (zs.map Fd.v).toArray (ws.map Fd.v).toArray (by rw [hf]; exact hu) a1
    rw [h9, hf]
    exact eqFields_mix (d := 9998) fs.toList ks 0 zs ws a3 h1 h2 rfl rfl
  · cases hn
section
variable {P : Program} {W : World} {H : HL} {e : Env} {x y : Operand} {t t' ty : TypeId}
theorem QO.seqlM (zs ws : List Fd) {ks : List Nat} (hn : mixT P t ks = true) (hx : ev e x = .agg (zs.map Fd.v).toArray) (hy : ev e y = .agg (ws.map Fd.v).toArray) (h1 : zs.map Fd.k = ks) (h2 : ws.map Fd.k = ks) : QO P W H e (.binOp .eql t x y t') ty (.bool (allEq zs ws)) := by
  refine QO.bin hx hy (fun w => ?_)
  obtain ⟨h3, h4⟩ := equal_mix hn h1 h2 w
  simp only [Sem.run_bind, run_eqGuard_agg w .eql t x y _ _ h4, Result.andThen_ok, run_eql_struct, h3]
theorem equal_nil {w : World} {d : Nat} {el : TypeId} {A : Option Addr} {l c : Nat} (hu : P.underlying t = some (.slice el)) : (Op.equalIn (d + 1) t (.slice A l c) (.slice none 0 0)).run P w = .ok A.isNone w := by
  unfold Op.equalIn
  cases A <;> simp only [Sem.run_bind, run_underlying hu, Result.andThen_ok, Sem.run_pure, Option.isNone]
/-- a slice against nil -/
theorem QO.sliceNil {el : TypeId} {A : Option Addr} {l c : Nat} (hu : P.underlying t = some (.slice el)) (hx : ev e x = .slice A l c) (hy : ev e y = .slice none 0 0) : QO P W H e (.binOp .eql t x y t') ty (.bool A.isNone) := by
  refine QO.bin hx hy (fun w => ?_)
  have h1 : (eqGuard .eql t x y (.slice A l c) (.slice none 0 0)).run P w = .ok () w := by cases A <;> simp [eqGuard]
  have h2 : binOp .eql t (.slice A l c) (.slice none 0 0) = (do pure (.bool (← Op.equalIn 10000 t (.slice A l c) (.slice none 0 0)))) := rfl
  simp only [Sem.run_bind, h1, Result.andThen_ok, h2, equal_nil (P := P) (d := 9999) hu, Sem.run_pure]
end
section
variable {P : Program} {W : World} {n : Nat} {ops : Array Oper} {Q : Env → HL → Prop} {rest : List Oper} {e : Env} {H : HL}
variable {d : Tmp} {ty t : TypeId} {pos : String} {af : Array Edge} {z : List Value} {ag : Bool} {by_ : Nat}
/-- a slice literal of no elements -/
theorem RS.buildSlice0 {el : TypeId} (hd : Nat.blt d n = true) (hu : P.underlying t = some (.slice el)) (he : tyChk P el = some (z, ag, by_))
    (k : ∀ g, RS P W n ops Q rest (put e d (.slice (some ⟨g, 0, none⟩) 0 0)) (⟨g, el, []⟩ :: H)) : RS P W n ops Q (⟨some d, .buildSlice t 0 #[], ty, pos, af, none⟩ :: rest) e H := by
  refine RS.step (d := some d) hd fun w ho => ?_
  refine ⟨_, _, _, ?_, ho.alloc el [], k _⟩
  simp [execOp, Instr.buildSlice, run_underlying hu, run_size he, Instr.fill, newRow]
  exact congrArg (fun a => w.alloc (.cells a el)) (Array.toList_inj.1 (by rw [Array.toList_map, Array.toList_range]; rfl))
end
end Go.Proofs.Ytapcgokcfmklbaa
