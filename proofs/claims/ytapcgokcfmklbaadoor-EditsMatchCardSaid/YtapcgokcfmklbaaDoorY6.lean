/-
  Part 6 of what the proof leans on (T3, T4, Mp, Grp, Src2, Srt2, Src3, Srt3, U0). Conditions: as each theorem says.
-/
import Derived.Test.YtapcgokcfmklbaaDoorY5
import Derived.Maps.Range
import Derived.Lib.Bytealg
import Derived.Sort.OwnSorted
import Derived.Lib.RowBridge
import Derived.Test.YtapcgokcfmklbaaDoorShelf3
namespace Go.Proofs.YtapcgokcfmklbaaDoor
open Go Go.Proofs Go.RowKit

theorem ty91 : tyChk Tryd.prog 91 = some ([.string ByteArray.empty, .int .i64 0, .int .i64 0], true, 32) := by kernel_rfl
theorem ok188 : callOK Tryd.prog 188 = true := by kernel_rfl
theorem ok223 : callOK Tryd.prog 223 = true := by kernel_rfl
theorem ok246 : callOK Tryd.prog 246 = true := by kernel_rfl

theorem half_nat (x : Nat) : Int.fdiv ((x : Nat) : Int) (2 ^ (min (1 : Int).toNat 64)) = ((x / 2 : Nat) : Int) := by
  rw [show (2 : Int) ^ (min (1 : Int).toNat 64) = ((2 : Nat) : Int) from rfl, Int.fdiv_eq_ediv_of_nonneg _ (Int.natCast_nonneg _)]
  norm_cast
theorem u64_id {x : Nat} (h : x < 4611686018427387904) : IntKind.u64.wrap ((x : Nat) : Int) = ((x : Nat) : Int) := by rw [IntKind.wrap_u64]; omega
theorem i64_id {x : Nat} (h : x < 4611686018427387904) : IntKind.i64.wrap ((x : Nat) : Int) = ((x : Nat) : Int) := w64 (by omega) (by omega)
theorem QO.shr2 {P : Program} {W : World} {H : HL} {e : Env} {x y : Operand} {t t' ty : TypeId} {k k' : IntKind} {i j : Int} (hx : ev e x = .int k i) (hy : ev e y = .int k' j) (h0 : 0 ≤ j) : QO P W H e (.binOp .shr t x y t') ty (.int k (i.fdiv (2 ^ (min j.toNat k.bits)))) := by
  refine QO.bin hx hy (fun w => ?_)
  simp only [Sem.run_bind, eqg_int, Result.andThen_ok]
  have : ¬ j < 0 := by omega
  simp [binOp, Op.shift, this]
theorem rot_dn' (d : Nat → Pl) {m q : Nat} (h1 : 1 ≤ q) (h : q ≤ m) : swD (rotD d q m (m + 1)) q (q - 1) = rotD d (q - 1) m (m + 1) := by
  obtain ⟨k, rfl⟩ : ∃ k, q = k + 1 := ⟨q - 1, by omega⟩
  exact rot_dn d m k h

set_option maxHeartbeats 4000000 in
set_option maxRecDepth 100000 in
theorem swapRange_ (g n c : Nat) (junk : List Value) (HR : HL) (W : World) (fc : FuncId) (hn : n ≤ 1000000) (a b t : Nat) (d : Nat → Pl) (h1 : a + t ≤ b) (h2 : b + t ≤ n) : FnH Tryd.prog 246 #[.slice (some ⟨g, 0, none⟩) n c, iv (a : Int), iv (b : Int), iv (t : Int), .func (.func fc) #[] #[]] W (⟨g, 91, fl d n junk⟩ :: HR) (fun v H => H = ⟨g, 91, fl (swR d a b t) n junk⟩ :: HR) := by
  refine FnH.intro Tryd.func246 rfl rfl (by rfl) ?_
  refine CS.seq ?_
  refine CS.region ?_
  refine RS.q rfl (QO.assign) ?_
  refine RS.nil ?_
  refine thenC_n ?_
  refine CS.block ?_
  refine CS.loop (X := Nat) (10 :: 11 :: 12 :: 13 :: 14 :: 15 :: 16 :: 17 :: 18 :: 19 :: 20 :: 21 :: 22 :: 23 :: 24 :: 25 :: 26 :: 27 :: 28 :: 29 :: 30 :: 31 :: 32 :: 33 :: 34 :: 35 :: 36 :: 37 :: []) (fun k => [(10, iv (k : Int))]) (fun k => ⟨g, 91, fl (swR d a b k) n junk⟩ :: HR) (fun k => k ≤ t) (fun k => t - k) 0 (Nat.zero_le _) ?_ ?_ ?_
  · exact (by repeat (first | exact kn_nil | refine kn_cons (by rfl) ?_))
  · exact (by rw [swR_0]; exact (by repeat (first | exact List.Sublist.refl _ | exact List.nil_sublist _ | refine List.Sublist.cons_cons _ ?_ | refine List.Sublist.cons _ ?_ | exact Sbp.refl | exact Sbp.nil | refine Sbp.cons (by repeat (first | exact Rem.head | apply Rem.tail)) ?_ | exact Sbp.app | refine Sbp.skip ?_ | exact List.sublist_append_left _ _ | exact List.sublist_append_right _ _)))
  · intro k gj1 hz
    refine CS.seq ?_
    refine CS.seq ?_
    refine CS.region ?_
    refine RS.q rfl (QO.move) ?_
    refine RS.q rfl (QO.move) ?_
    refine RS.q rfl (QO.lss (by rfl) (by rfl)) ?_
    refine RS.nil ?_
    refine thenC_n ?_
    refine CS.cond (by rfl) (fun hb0 => ?_) (fun hb0 => ?_)
    · have hb0p := of_decide_eq_true hb0
      refine CS.skip ?_
      refine thenC_n ?_
      refine CS.seq ?_
      refine CS.block ?_
      refine CS.draw2 [21, 23] (HT := HR) (by repeat (first | exact List.Sublist.refl _ | exact List.nil_sublist _ | refine List.Sublist.cons_cons _ ?_ | refine List.Sublist.cons _ ?_ | exact Sbp.refl | exact Sbp.nil | refine Sbp.cons (by repeat (first | exact Rem.head | apply Rem.tail)) ?_ | exact Sbp.app | refine Sbp.skip ?_ | exact List.sublist_append_left _ _ | exact List.sublist_append_right _ _)) rfl (by kernel_rfl) ?_
      refine RT2.take1 (i := 0) rfl (by kernel_rfl) rfl (QO.move) ?_
      refine RT2.take1 (i := 1) rfl (by kernel_rfl) rfl (QO.move) ?_
      refine RT2.take1 (i := 2) rfl (by kernel_rfl) rfl (QO.move) ?_
      first | (refine RT2.take1v (i := 3) rfl (by kernel_rfl) rfl (QO.add (by rfl) (by rfl) (by omega) (by omega)) (congrArg iv (show (a : Int) + (k : Int) = ((a + k : Nat) : Int) by omega)) ?_) | (refine RT2.take1v (i := 3) rfl (by kernel_rfl) rfl (QO.ibin (by rfl) (by rfl) trivial) (congrArg iv (show (a : Int) + (k : Int) = ((a + k : Nat) : Int) by omega)) ?_)
      refine RT2.take2 (i := 4) rfl (by kernel_rfl) rfl (QO.move) ?_
      refine RT2.take2 (i := 5) rfl (by kernel_rfl) rfl (QO.move) ?_
      refine RT2.take2 (i := 6) rfl (by kernel_rfl) rfl (QO.move) ?_
      first | (refine RT2.take2v (i := 7) rfl (by kernel_rfl) rfl (QO.add (by rfl) (by rfl) (by omega) (by omega)) (congrArg iv (show (b : Int) + (k : Int) = ((b + k : Nat) : Int) by omega)) ?_) | (refine RT2.take2v (i := 7) rfl (by kernel_rfl) rfl (QO.ibin (by rfl) (by rfl) trivial) (congrArg iv (show (b : Int) + (k : Int) = ((b + k : Nat) : Int) by omega)) ?_)
      refine RT2.take1 (i := 8) rfl (by kernel_rfl) rfl (QO.move) ?_
      refine RT2.take1 (i := 9) rfl (by kernel_rfl) rfl (QO.move) ?_
      refine RT2.take1 (i := 10) rfl (by kernel_rfl) rfl (QO.move) ?_
      first | (refine RT2.take1v (i := 11) rfl (by kernel_rfl) rfl (QO.add (by rfl) (by rfl) (by omega) (by omega)) (congrArg iv (show (b : Int) + (k : Int) = ((b + k : Nat) : Int) by omega)) ?_) | (refine RT2.take1v (i := 11) rfl (by kernel_rfl) rfl (QO.ibin (by rfl) (by rfl) trivial) (congrArg iv (show (b : Int) + (k : Int) = ((b + k : Nat) : Int) by omega)) ?_)
      refine RT2.take1 (i := 12) rfl (by kernel_rfl) rfl (QO.idx Tryd.underlying86 ty91 (by rfl) (by rfl) (by omega) (by omega)) ?_
      refine RT2.take1 (i := 13) rfl (by kernel_rfl) rfl (QO.loadA ty91 (by rfl) (by repeat (first | exact List.Mem.head _ | refine List.Mem.tail _ ?_)) (fl_at (i := b + k) (by omega)) rfl) ?_
      refine RT2.take2 (i := 14) rfl (by kernel_rfl) rfl (QO.move) ?_
      refine RT2.take2 (i := 15) rfl (by kernel_rfl) rfl (QO.move) ?_
      refine RT2.take2 (i := 16) rfl (by kernel_rfl) rfl (QO.move) ?_
      first | (refine RT2.take2v (i := 17) rfl (by kernel_rfl) rfl (QO.add (by rfl) (by rfl) (by omega) (by omega)) (congrArg iv (show (a : Int) + (k : Int) = ((a + k : Nat) : Int) by omega)) ?_) | (refine RT2.take2v (i := 17) rfl (by kernel_rfl) rfl (QO.ibin (by rfl) (by rfl) trivial) (congrArg iv (show (a : Int) + (k : Int) = ((a + k : Nat) : Int) by omega)) ?_)
      refine RT2.take2 (i := 18) rfl (by kernel_rfl) rfl (QO.idx Tryd.underlying86 ty91 (by rfl) (by rfl) (by omega) (by omega)) ?_
      refine RT2.take1 (i := 19) rfl (by kernel_rfl) rfl (QO.loadA ty91 (by rfl) (by repeat (first | exact List.Mem.head _ | refine List.Mem.tail _ ?_)) (fl_at (i := a + k) (by omega)) rfl) ?_
      refine RT2.take1 (i := 20) rfl (by kernel_rfl) rfl (QO.idx Tryd.underlying86 ty91 (by rfl) (by rfl) (by omega) (by omega)) ?_
      refine RT2.oneX (i := 21) (by kernel_rfl) rfl (by kernel_rfl) ?_
      refine RS.storeE ty91 (by rfl) (by rfl) (by rfl) (by rfl) (by rfl) (fl_set (n := n) (i := a + k) (v := swR d a b k (b + k)) (by omega)) (by repeat (first | exact Upd.head | apply Upd.tail)) (fl_fit (by omega)) ?_
      refine RS.nil ⟨(by repeat (first | exact List.Sublist.refl _ | exact List.nil_sublist _ | refine List.Sublist.cons_cons _ ?_ | refine List.Sublist.cons _ ?_ | exact Sbp.refl | exact Sbp.nil | refine Sbp.cons (by repeat (first | exact Rem.head | apply Rem.tail)) ?_ | exact Sbp.app | refine Sbp.skip ?_ | exact List.sublist_append_left _ _ | exact List.sublist_append_right _ _)), ?_⟩
      refine RT2.take2 (i := 22) rfl (by kernel_rfl) rfl (QO.idx Tryd.underlying86 ty91 (by rfl) (by rfl) (by omega) (by omega)) ?_
      refine RT2.oneX (i := 23) (by kernel_rfl) rfl (by kernel_rfl) ?_
      refine RS.storeE ty91 (by rfl) (by rfl) (by rfl) (by rfl) (by rfl) ((fl_set (n := n) (i := b + k) (v := swR d a b k (a + k)) (by omega)).trans (congrArg (fun q => fl q n junk) ((swD_upd _ _ _).trans (swR_succ d (by omega))))) (by repeat (first | exact Upd.head | apply Upd.tail)) (fl_fit (by omega)) ?_
      refine RS.nil ⟨(by repeat (first | exact List.Sublist.refl _ | exact List.nil_sublist _ | refine List.Sublist.cons_cons _ ?_ | refine List.Sublist.cons _ ?_ | exact Sbp.refl | exact Sbp.nil | refine Sbp.cons (by repeat (first | exact Rem.head | apply Rem.tail)) ?_ | exact Sbp.app | refine Sbp.skip ?_ | exact List.sublist_append_left _ _ | exact List.sublist_append_right _ _)), ?_⟩
      refine RT2.done (by kernel_rfl) ?_
      refine blockC_n ?_
      refine thenC_n ?_
      refine CS.region ?_
      refine RS.q rfl (QO.move) ?_
      first | (refine RS.q rfl (QO.add (by rfl) (by rfl) (by omega) (by omega)) ?_) | (refine RS.q rfl (QO.ibin (by rfl) (by rfl) trivial) ?_)
      refine RS.q rfl (QO.assign) ?_
      refine RS.nil ?_
      refine loopQ_n (by intro t ht; repeat (first | with_reducible exact rfl | exact frame_puts ht (frame_mix ht) _ rfl | (refine frame_put rfl ht ?_) | (refine frame_puts ht ?_ _ rfl) | exact frame_mix ht | (refine frame_mix2 rfl ht ?_) | exact rfl)) ?_
      exact ⟨k + 1, by omega, by omega, (by repeat (first | exact kn_nil | refine kn_cons (by rfl) ?_)), (by repeat (first | exact List.Sublist.refl _ | exact List.nil_sublist _ | refine List.Sublist.cons_cons _ ?_ | refine List.Sublist.cons _ ?_ | exact Sbp.refl | exact Sbp.nil | refine Sbp.cons (by repeat (first | exact Rem.head | apply Rem.tail)) ?_ | exact Sbp.app | refine Sbp.skip ?_ | exact List.sublist_append_left _ _ | exact List.sublist_append_right _ _))⟩
    · have hb0p := of_decide_eq_false hb0
      refine CS.exit ?_
      refine thenC_x ?_
      refine loopQ_x ?_
      refine blockC_x ?_
      refine retQ.mk (H' := ⟨g, 91, fl (swR d a b k) n junk⟩ :: HR) (.inl rfl) RVs.nil (by repeat (first | exact List.Sublist.refl _ | exact List.nil_sublist _ | refine List.Sublist.cons_cons _ ?_ | refine List.Sublist.cons _ ?_ | exact Sbp.refl | exact Sbp.nil | refine Sbp.cons (by repeat (first | exact Rem.head | apply Rem.tail)) ?_ | exact Sbp.app | refine Sbp.skip ?_ | exact List.sublist_append_left _ _ | exact List.sublist_append_right _ _)) ?_
      rw [show k = t by omega]

set_option maxHeartbeats 4000000 in
set_option maxRecDepth 100000 in
theorem rotate_ (g n c : Nat) (junk : List Value) (HR : HL) (W : World) (fc : FuncId) (hn : n ≤ 1000000) (a m b : Nat) (d : Nat → Pl) (h1 : a < m) (h2 : m < b) (h3 : b ≤ n) : FnH Tryd.prog 223 #[.slice (some ⟨g, 0, none⟩) n c, iv (a : Int), iv (m : Int), iv (b : Int), .func (.func fc) #[] #[]] W (⟨g, 91, fl d n junk⟩ :: HR) (fun v H => H = ⟨g, 91, fl (rotD d a m b) n junk⟩ :: HR) := by
  refine FnH.intro Tryd.func223 rfl rfl (by rfl) ?_
  refine CS.seq ?_
  refine CS.region ?_
  refine RS.q rfl (QO.move) ?_
  refine RS.q rfl (QO.move) ?_
  first | (refine RS.qv rfl (QO.sub (by rfl) (by rfl) (by omega) (by omega)) (congrArg iv (show (m : Int) - (a : Int) = ((m - a : Nat) : Int) by omega)) ?_) | (refine RS.qv rfl (QO.ibin (by rfl) (by rfl) trivial) (congrArg iv (show (m : Int) - (a : Int) = ((m - a : Nat) : Int) by omega)) ?_)
  refine RS.q rfl (QO.assign) ?_
  refine RS.nil ?_
  refine thenC_n ?_
  refine CS.seq ?_
  refine CS.region ?_
  refine RS.q rfl (QO.move) ?_
  refine RS.q rfl (QO.move) ?_
  first | (refine RS.qv rfl (QO.sub (by rfl) (by rfl) (by omega) (by omega)) (congrArg iv (show (b : Int) - (m : Int) = ((b - m : Nat) : Int) by omega)) ?_) | (refine RS.qv rfl (QO.ibin (by rfl) (by rfl) trivial) (congrArg iv (show (b : Int) - (m : Int) = ((b - m : Nat) : Int) by omega)) ?_)
  refine RS.q rfl (QO.assign) ?_
  refine RS.nil ?_
  refine thenC_n ?_
  refine CS.seq ?_
  refine CS.block ?_
  refine CS.loop (X := (Nat → Pl) × Nat × Nat) (10 :: 11 :: 18 :: 19 :: 20 :: 21 :: 22 :: 23 :: 24 :: 25 :: 26 :: 27 :: 28 :: 29 :: 30 :: 31 :: 32 :: 33 :: 34 :: 35 :: 36 :: 37 :: 38 :: 39 :: 40 :: 41 :: 42 :: 43 :: 44 :: 45 :: 46 :: 47 :: 48 :: 49 :: []) (fun z => [(10, iv (z.2.1 : Int)), (11, iv (z.2.2 : Int))]) (fun z => ⟨g, 91, fl z.1 n junk⟩ :: HR) (fun z => (1 ≤ z.2.1 ∧ z.2.1 ≤ m) ∧ (1 ≤ z.2.2 ∧ m + z.2.2 ≤ n) ∧ rotD z.1 (m - z.2.1) m (m + z.2.2) = rotD d a m b) (fun z => z.2.1 + z.2.2) (d, m - a, b - m) ⟨(by show 1 ≤ m - a ∧ m - a ≤ m; omega), (by show 1 ≤ b - m ∧ m + (b - m) ≤ n; omega), (by show rotD d (m - (m - a)) m (m + (b - m)) = _; rw [show m - (m - a) = a by omega, show m + (b - m) = b by omega])⟩ ?_ ?_ ?_
  · exact (by repeat (first | exact kn_nil | refine kn_cons (by rfl) ?_))
  · exact (by repeat (first | exact List.Sublist.refl _ | exact List.nil_sublist _ | refine List.Sublist.cons_cons _ ?_ | refine List.Sublist.cons _ ?_ | exact Sbp.refl | exact Sbp.nil | refine Sbp.cons (by repeat (first | exact Rem.head | apply Rem.tail)) ?_ | exact Sbp.app | refine Sbp.skip ?_ | exact List.sublist_append_left _ _ | exact List.sublist_append_right _ _))
  · intro z gj2 hz
    obtain ⟨D, i, j⟩ := z
    obtain ⟨hi, hj, hD⟩ := hz
    replace hi : 1 ≤ i ∧ i ≤ m := hi
    replace hj : 1 ≤ j ∧ m + j ≤ n := hj
    replace hD : rotD D (m - i) m (m + j) = rotD d a m b := hD
    show CS _ _ _ _ _ (puts (mix _ _ _) [(10, iv (i : Int)), (11, iv (j : Int))]) (⟨g, 91, fl D n junk⟩ :: HR)
    refine CS.seq ?_
    refine CS.seq ?_
    refine CS.region ?_
    refine RS.q rfl (QO.move) ?_
    refine RS.q rfl (QO.move) ?_
    refine RS.q rfl (QO.neq (by rfl) (by rfl)) ?_
    refine RS.nil ?_
    refine thenC_n ?_
    refine CS.cond (by rfl) (fun hb0 => ?_) (fun hb0 => ?_)
    · have hb0p := bne_iff_ne.1 hb0
      refine CS.skip ?_
      refine thenC_n ?_
      refine CS.block ?_
      refine CS.seq ?_
      refine CS.region ?_
      refine RS.q rfl (QO.move) ?_
      refine RS.q rfl (QO.move) ?_
      refine RS.q rfl (QO.gtr (by rfl) (by rfl)) ?_
      refine RS.nil ?_
      refine thenC_n ?_
      refine CS.cond (by rfl) (fun hb1 => ?_) (fun hb1 => ?_)
      · have hb1p := of_decide_eq_true hb1
        refine CS.seq ?_
        refine CS.region ?_
        refine RS.q rfl (QO.move) ?_
        refine RS.q rfl (QO.move) ?_
        refine RS.q rfl (QO.move) ?_
        first | (refine RS.qv rfl (QO.sub (by rfl) (by rfl) (by omega) (by omega)) (congrArg iv (show (m : Int) - (i : Int) = ((m - i : Nat) : Int) by omega)) ?_) | (refine RS.qv rfl (QO.ibin (by rfl) (by rfl) trivial) (congrArg iv (show (m : Int) - (i : Int) = ((m - i : Nat) : Int) by omega)) ?_)
        refine RS.q rfl (QO.move) ?_
        refine RS.q rfl (QO.move) ?_
        refine RS.q rfl (QO.move) ?_
        refine RS.callH (⟨g, 91, fl D n junk⟩ :: HR) rfl (by rfl) ok246 (by rfl) (by repeat (first | exact List.Sublist.refl _ | exact List.nil_sublist _ | refine List.Sublist.cons_cons _ ?_ | refine List.Sublist.cons _ ?_ | exact Sbp.refl | exact Sbp.nil | refine Sbp.cons (by repeat (first | exact Rem.head | apply Rem.tail)) ?_ | exact Sbp.app | refine Sbp.skip ?_ | exact List.sublist_append_left _ _ | exact List.sublist_append_right _ _)) (fun w ho => swapRange_ g n c junk HR _ fc hn (m - i) m j D (by omega) (by omega)) ?_
        rintro _ _ rfl
        refine RS.nil ?_
        refine thenC_n ?_
        refine CS.region ?_
        refine RS.q rfl (QO.move) ?_
        refine RS.q rfl (QO.move) ?_
        first | (refine RS.qv rfl (QO.sub (by rfl) (by rfl) (by omega) (by omega)) (congrArg iv (show (i : Int) - (j : Int) = ((i - j : Nat) : Int) by omega)) ?_) | (refine RS.qv rfl (QO.ibin (by rfl) (by rfl) trivial) (congrArg iv (show (i : Int) - (j : Int) = ((i - j : Nat) : Int) by omega)) ?_)
        refine RS.q rfl (QO.assign) ?_
        refine RS.nil ?_
        refine blockC_n ?_
        refine loopQ_n (by intro t ht; repeat (first | with_reducible exact rfl | exact frame_puts ht (frame_mix ht) _ rfl | (refine frame_put rfl ht ?_) | (refine frame_puts ht ?_ _ rfl) | exact frame_mix ht | (refine frame_mix2 rfl ht ?_) | exact rfl)) ?_
        exact ⟨(swR D (m - i) m j, i - j, j), ⟨(by show 1 ≤ i - j ∧ i - j ≤ m; omega), hj, (rot_gt D (by omega) (by omega)).trans hD⟩, by show i - j + j < i + j; omega, (by repeat (first | exact kn_nil | refine kn_cons (by rfl) ?_)), (by repeat (first | exact List.Sublist.refl _ | exact List.nil_sublist _ | refine List.Sublist.cons_cons _ ?_ | refine List.Sublist.cons _ ?_ | exact Sbp.refl | exact Sbp.nil | refine Sbp.cons (by repeat (first | exact Rem.head | apply Rem.tail)) ?_ | exact Sbp.app | refine Sbp.skip ?_ | exact List.sublist_append_left _ _ | exact List.sublist_append_right _ _))⟩
      · have hb1p := of_decide_eq_false hb1
        refine CS.seq ?_
        refine CS.region ?_
        refine RS.q rfl (QO.move) ?_
        refine RS.q rfl (QO.move) ?_
        refine RS.q rfl (QO.move) ?_
        first | (refine RS.qv rfl (QO.sub (by rfl) (by rfl) (by omega) (by omega)) (congrArg iv (show (m : Int) - (i : Int) = ((m - i : Nat) : Int) by omega)) ?_) | (refine RS.qv rfl (QO.ibin (by rfl) (by rfl) trivial) (congrArg iv (show (m : Int) - (i : Int) = ((m - i : Nat) : Int) by omega)) ?_)
        refine RS.q rfl (QO.move) ?_
        refine RS.q rfl (QO.move) ?_
        first | (refine RS.qv rfl (QO.add (by rfl) (by rfl) (by omega) (by omega)) (congrArg iv (show (m : Int) + (j : Int) = ((m + j : Nat) : Int) by omega)) ?_) | (refine RS.qv rfl (QO.ibin (by rfl) (by rfl) trivial) (congrArg iv (show (m : Int) + (j : Int) = ((m + j : Nat) : Int) by omega)) ?_)
        refine RS.q rfl (QO.move) ?_
        first | (refine RS.qv rfl (QO.sub (by rfl) (by rfl) (by omega) (by omega)) (congrArg iv (show ((m + j : Nat) : Int) - (i : Int) = ((m + j - i : Nat) : Int) by omega)) ?_) | (refine RS.qv rfl (QO.ibin (by rfl) (by rfl) trivial) (congrArg iv (show ((m + j : Nat) : Int) - (i : Int) = ((m + j - i : Nat) : Int) by omega)) ?_)
        refine RS.q rfl (QO.move) ?_
        refine RS.q rfl (QO.move) ?_
        refine RS.callH (⟨g, 91, fl D n junk⟩ :: HR) rfl (by rfl) ok246 (by rfl) (by repeat (first | exact List.Sublist.refl _ | exact List.nil_sublist _ | refine List.Sublist.cons_cons _ ?_ | refine List.Sublist.cons _ ?_ | exact Sbp.refl | exact Sbp.nil | refine Sbp.cons (by repeat (first | exact Rem.head | apply Rem.tail)) ?_ | exact Sbp.app | refine Sbp.skip ?_ | exact List.sublist_append_left _ _ | exact List.sublist_append_right _ _)) (fun w ho => swapRange_ g n c junk HR _ fc hn (m - i) (m + j - i) i D (by omega) (by omega)) ?_
        rintro _ _ rfl
        refine RS.nil ?_
        refine thenC_n ?_
        refine CS.region ?_
        refine RS.q rfl (QO.move) ?_
        refine RS.q rfl (QO.move) ?_
        first | (refine RS.qv rfl (QO.sub (by rfl) (by rfl) (by omega) (by omega)) (congrArg iv (show (j : Int) - (i : Int) = ((j - i : Nat) : Int) by omega)) ?_) | (refine RS.qv rfl (QO.ibin (by rfl) (by rfl) trivial) (congrArg iv (show (j : Int) - (i : Int) = ((j - i : Nat) : Int) by omega)) ?_)
        refine RS.q rfl (QO.assign) ?_
        refine RS.nil ?_
        refine blockC_n ?_
        refine loopQ_n (by intro t ht; repeat (first | with_reducible exact rfl | exact frame_puts ht (frame_mix ht) _ rfl | (refine frame_put rfl ht ?_) | (refine frame_puts ht ?_ _ rfl) | exact frame_mix ht | (refine frame_mix2 rfl ht ?_) | exact rfl)) ?_
        exact ⟨(swR D (m - i) (m + j - i) i, i, j - i), ⟨hi, (by show 1 ≤ j - i ∧ m + (j - i) ≤ n; omega), (rot_lt D (by omega) (by omega)).trans hD⟩, by show i + (j - i) < i + j; omega, (by repeat (first | exact kn_nil | refine kn_cons (by rfl) ?_)), (by repeat (first | exact List.Sublist.refl _ | exact List.nil_sublist _ | refine List.Sublist.cons_cons _ ?_ | refine List.Sublist.cons _ ?_ | exact Sbp.refl | exact Sbp.nil | refine Sbp.cons (by repeat (first | exact Rem.head | apply Rem.tail)) ?_ | exact Sbp.app | refine Sbp.skip ?_ | exact List.sublist_append_left _ _ | exact List.sublist_append_right _ _))⟩
    · have hb0p := of_bne_false hb0
      refine CS.exit ?_
      refine thenC_x ?_
      refine loopQ_x ?_
      refine blockC_x ?_
      refine thenC_n ?_
      refine CS.region ?_
      have hij : i = j := by omega
      have hfin : swR D (m - i) m i = rotD d a m b := (rot_eq D (by omega)).trans (by have h9 := hD; rw [← hij] at h9; exact h9)
      refine RS.q rfl (QO.move) ?_
      refine RS.q rfl (QO.move) ?_
      refine RS.q rfl (QO.move) ?_
      first | (refine RS.qv rfl (QO.sub (by rfl) (by rfl) (by omega) (by omega)) (congrArg iv (show (m : Int) - (i : Int) = ((m - i : Nat) : Int) by omega)) ?_) | (refine RS.qv rfl (QO.ibin (by rfl) (by rfl) trivial) (congrArg iv (show (m : Int) - (i : Int) = ((m - i : Nat) : Int) by omega)) ?_)
      refine RS.q rfl (QO.move) ?_
      refine RS.q rfl (QO.move) ?_
      refine RS.q rfl (QO.move) ?_
      refine RS.callH (⟨g, 91, fl D n junk⟩ :: HR) rfl (by rfl) ok246 (by rfl) (by repeat (first | exact List.Sublist.refl _ | exact List.nil_sublist _ | refine List.Sublist.cons_cons _ ?_ | refine List.Sublist.cons _ ?_ | exact Sbp.refl | exact Sbp.nil | refine Sbp.cons (by repeat (first | exact Rem.head | apply Rem.tail)) ?_ | exact Sbp.app | refine Sbp.skip ?_ | exact List.sublist_append_left _ _ | exact List.sublist_append_right _ _)) (fun w ho => swapRange_ g n c junk HR _ fc hn (m - i) m i D (by omega) (by omega)) ?_
      rintro _ _ rfl
      refine RS.nil ?_
      refine retQ.mk (H' := ⟨g, 91, fl (swR D (m - i) m i) n junk⟩ :: HR) (.inl rfl) RVs.nil (by repeat (first | exact List.Sublist.refl _ | exact List.nil_sublist _ | refine List.Sublist.cons_cons _ ?_ | refine List.Sublist.cons _ ?_ | exact Sbp.refl | exact Sbp.nil | refine Sbp.cons (by repeat (first | exact Rem.head | apply Rem.tail)) ?_ | exact Sbp.app | refine Sbp.skip ?_ | exact List.sublist_append_left _ _ | exact List.sublist_append_right _ _)) ?_
      rw [hfin]

set_option maxHeartbeats 4000000 in
set_option maxRecDepth 100000 in
theorem insertion_ (g n c : Nat) (junk : List Value) (HR : HL) (W : World) (fc : FuncId) (hn : n ≤ 1000000) (lt : Pl → Pl → Bool) (hlt : Ord lt) (hok : callOK Tryd.prog fc = true) (hf : ∀ wd Hd, Own W wd Hd → ∀ x y : Pl, PlP x → PlP y → Fn_ Tryd.prog fc #[.agg (plc x).toArray, .agg (plc y).toArray] wd (fun v H => ∃ r : Int, v = iv r ∧ decide (r < 0) = lt x y ∧ H = [])) (a b : Nat) (d : Nat → Pl) (hP : ∀ i, PlP (d i)) (ha : a ≤ n) (h3 : b ≤ n) : FnH Tryd.prog 187 #[.slice (some ⟨g, 0, none⟩) n c, iv (a : Int), iv (b : Int), .func (.func fc) #[] #[]] W (⟨g, 91, fl d n junk⟩ :: HR) (fun v H => ∃ d2, H = ⟨g, 91, fl d2 n junk⟩ :: HR ∧ Mv n a b d d2 ∧ So lt a b d2) := by
  refine FnH.intro Tryd.func187 rfl rfl (by rfl) ?_
  refine CS.seq ?_
  refine CS.region ?_
  refine RS.q rfl (QO.move) ?_
  first | (refine RS.qv rfl (QO.add (by rfl) (by rfl) (by omega) (by omega)) (congrArg iv (show (a : Int) + 1 = ((a + 1 : Nat) : Int) by omega)) ?_) | (refine RS.qv rfl (QO.ibin (by rfl) (by rfl) trivial) (congrArg iv (show (a : Int) + 1 = ((a + 1 : Nat) : Int) by omega)) ?_)
  refine RS.q rfl (QO.assign) ?_
  refine RS.nil ?_
  refine thenC_n ?_
  refine CS.block ?_
  refine CS.loop (X := (Nat → Pl) × Nat) (8 :: 9 :: 12 :: 13 :: 14 :: 15 :: 16 :: 17 :: 18 :: 19 :: 20 :: 21 :: 22 :: 23 :: 24 :: 25 :: 26 :: 27 :: 28 :: 29 :: 30 :: 31 :: 32 :: 33 :: 34 :: 35 :: 36 :: 37 :: 38 :: 39 :: 40 :: 41 :: 42 :: 43 :: 44 :: 45 :: 46 :: 47 :: 48 :: 49 :: 50 :: 51 :: 52 :: []) (fun z => [(8, iv (z.2 : Int))]) (fun z => ⟨g, 91, fl z.1 n junk⟩ :: HR) (fun z => a + 1 ≤ z.2 ∧ (z.2 ≤ b ∨ z.2 = a + 1) ∧ Mv n a b d z.1 ∧ So lt a z.2 z.1) (fun z => b + 1 - z.2) (d, a + 1) ⟨Nat.le_refl _, .inr rfl, Mv.refl _ _ _ _, So.one (Nat.le_refl _)⟩ ?_ ?_ ?_
  · exact (by repeat (first | exact kn_nil | refine kn_cons (by rfl) ?_))
  · exact (by repeat (first | exact List.Sublist.refl _ | exact List.nil_sublist _ | refine List.Sublist.cons_cons _ ?_ | refine List.Sublist.cons _ ?_ | exact Sbp.refl | exact Sbp.nil | refine Sbp.cons (by repeat (first | exact Rem.head | apply Rem.tail)) ?_ | exact Sbp.app | refine Sbp.skip ?_ | exact List.sublist_append_left _ _ | exact List.sublist_append_right _ _))
  · intro z gj1 hz
    obtain ⟨D, i⟩ := z
    obtain ⟨hi1, hi2, hM, hS⟩ := hz
    replace hi1 : a + 1 ≤ i := hi1
    replace hi2 : i ≤ b ∨ i = a + 1 := hi2
    replace hM : Mv n a b d D := hM
    replace hS : So lt a i D := hS
    show CS _ _ _ _ _ (puts (mix _ _ _) [(8, iv (i : Int))]) (⟨g, 91, fl D n junk⟩ :: HR)
    refine CS.seq ?_
    refine CS.seq ?_
    refine CS.region ?_
    refine RS.q rfl (QO.move) ?_
    refine RS.q rfl (QO.move) ?_
    refine RS.q rfl (QO.lss (by rfl) (by rfl)) ?_
    refine RS.nil ?_
    refine thenC_n ?_
    refine CS.cond (by rfl) (fun hb0 => ?_) (fun hb0 => ?_)
    · have hb0p := of_decide_eq_true hb0
      refine CS.skip ?_
      refine thenC_n ?_
      refine CS.seq ?_
      refine CS.block ?_
      refine CS.seq ?_
      refine CS.region ?_
      refine RS.q rfl (QO.move) ?_
      refine RS.q rfl (QO.assign) ?_
      refine RS.nil ?_
      refine thenC_n ?_
      refine CS.block ?_
      refine CS.loop (X := (Nat → Pl) × Nat) (9 :: 18 :: 19 :: 20 :: 21 :: 22 :: 23 :: 24 :: 25 :: 26 :: 27 :: 28 :: 29 :: 30 :: 31 :: 32 :: 33 :: 34 :: 35 :: 36 :: 37 :: 38 :: 39 :: 40 :: 41 :: 42 :: 43 :: 44 :: 45 :: 46 :: 47 :: 48 :: 49 :: 50 :: 51 :: 52 :: []) (fun y => [(9, iv (y.2 : Int))]) (fun y => ⟨g, 91, fl y.1 n junk⟩ :: HR) (fun y => (a ≤ y.2 ∧ y.2 ≤ i) ∧ Mv n a b d y.1 ∧ SoX lt a (i + 1) y.2 y.1) (fun y => y.2) (D, i) ⟨(by show a ≤ i ∧ i ≤ i; omega), hM, SoX.start hS⟩ ?_ ?_ ?_
      · exact (by repeat (first | exact kn_nil | refine kn_cons (by rfl) ?_))
      · exact (by repeat (first | exact List.Sublist.refl _ | exact List.nil_sublist _ | refine List.Sublist.cons_cons _ ?_ | refine List.Sublist.cons _ ?_ | exact Sbp.refl | exact Sbp.nil | refine Sbp.cons (by repeat (first | exact Rem.head | apply Rem.tail)) ?_ | exact Sbp.app | refine Sbp.skip ?_ | exact List.sublist_append_left _ _ | exact List.sublist_append_right _ _))
      · intro y gj4 hz
        obtain ⟨E, j⟩ := y
        obtain ⟨hj, hM2, hX⟩ := hz
        replace hj : a ≤ j ∧ j ≤ i := hj
        replace hM2 : Mv n a b d E := hM2
        replace hX : SoX lt a (i + 1) j E := hX
        have hE := hM2.lt32 hP
        show CS _ _ _ _ _ (puts (mix _ _ _) [(9, iv (j : Int))]) (⟨g, 91, fl E n junk⟩ :: HR)
        refine CS.seq ?_
        refine CS.seq ?_
        refine CS.draw 17 rfl (by kernel_rfl) (by kernel_rfl) ?_
        refine RT.take (i := 0) rfl (by kernel_rfl) rfl (QO.move) ?_
        refine RT.take (i := 1) rfl (by kernel_rfl) rfl (QO.move) ?_
        refine RT.take (i := 2) rfl (by kernel_rfl) rfl (QO.gtr (by rfl) (by rfl)) ?_
        refine RT.take (i := 3) rfl (by kernel_rfl) rfl (QO.move) ?_
        refine RT.split (dj := 21) (by rfl) (fun hb1 => ?_) (fun hb1 => ?_)
        · have hb1p := of_decide_eq_true hb1
          refine RT.takeOn (i := 4) (dj := 21) rfl rfl (congrArg Value.bool hb1) (by kernel_rfl) rfl (QO.move) ?_
          refine RT.takeOn (i := 5) (dj := 21) rfl rfl (congrArg Value.bool hb1) (by kernel_rfl) rfl (QO.move) ?_
          refine RT.takeOn (i := 6) (dj := 21) rfl rfl (congrArg Value.bool hb1) (by kernel_rfl) rfl (QO.move) ?_
          refine RT.takeOn (i := 7) (dj := 21) rfl rfl (congrArg Value.bool hb1) (by kernel_rfl) rfl (QO.idx Tryd.underlying86 ty91 (by rfl) (by rfl) (by omega) (by omega)) ?_
          refine RT.takeOn (i := 8) (dj := 21) rfl rfl (congrArg Value.bool hb1) (by kernel_rfl) rfl (QO.loadA ty91 (by rfl) (by repeat (first | exact List.Mem.head _ | refine List.Mem.tail _ ?_)) (fl_at (i := j) (by omega)) rfl) ?_
          refine RT.takeOn (i := 9) (dj := 21) rfl rfl (congrArg Value.bool hb1) (by kernel_rfl) rfl (QO.move) ?_
          refine RT.takeOn (i := 10) (dj := 21) rfl rfl (congrArg Value.bool hb1) (by kernel_rfl) rfl (QO.move) ?_
          first | (refine RT.takeOnv (i := 11) (dj := 21) rfl rfl (congrArg Value.bool hb1) (by kernel_rfl) rfl (QO.sub (by rfl) (by rfl) (by omega) (by omega)) (congrArg iv (show (j : Int) - 1 = ((j - 1 : Nat) : Int) by omega)) ?_) | (refine RT.takeOnv (i := 11) (dj := 21) rfl rfl (congrArg Value.bool hb1) (by kernel_rfl) rfl (QO.ibin (by rfl) (by rfl) trivial) (congrArg iv (show (j : Int) - 1 = ((j - 1 : Nat) : Int) by omega)) ?_)
          refine RT.takeOn (i := 12) (dj := 21) rfl rfl (congrArg Value.bool hb1) (by kernel_rfl) rfl (QO.idx Tryd.underlying86 ty91 (by rfl) (by rfl) (by omega) (by omega)) ?_
          refine RT.takeOn (i := 13) (dj := 21) rfl rfl (congrArg Value.bool hb1) (by kernel_rfl) rfl (QO.loadA ty91 (by rfl) (by repeat (first | exact List.Mem.head _ | refine List.Mem.tail _ ?_)) (fl_at (i := j - 1) (by omega)) rfl) ?_
          refine RT.one (i := 14) (by kernel_rfl) rfl rfl ?_
          refine RS.on (dj := 21) rfl (congrArg Value.bool hb1) ?_
          refine RS.call rfl (by rfl) hok (by rfl) (fun w ho => hf w _ ho (E j) (E (j - 1)) (hE _) (hE _)) ?_
          rintro _ _ ⟨r32, rfl, hr32, rfl⟩
          refine RS.nil ⟨(by repeat (first | exact List.Sublist.refl _ | exact List.nil_sublist _ | refine List.Sublist.cons_cons _ ?_ | refine List.Sublist.cons _ ?_ | exact Sbp.refl | exact Sbp.nil | refine Sbp.cons (by repeat (first | exact Rem.head | apply Rem.tail)) ?_ | exact Sbp.app | refine Sbp.skip ?_ | exact List.sublist_append_left _ _ | exact List.sublist_append_right _ _)), ?_⟩
          refine RT.takeOnv (i := 15) (dj := 21) rfl rfl (congrArg Value.bool hb1) (by kernel_rfl) rfl (QO.lss (by rfl) (by rfl)) (congrArg Value.bool hr32) ?_
          refine RT.take (i := 16) rfl (by kernel_rfl) rfl (QO.pickT (by rfl) hb1 (by rfl)) ?_
          refine RT.done (by kernel_rfl) ?_
          refine thenC_n ?_
          refine CS.cond (by rfl) (fun hb2 => ?_) (fun hb2 => ?_)
          · refine CS.skip ?_
            refine thenC_n ?_
            refine CS.seq ?_
            refine CS.block ?_
            refine CS.draw2 [15, 17] (HT := HR) (by repeat (first | exact List.Sublist.refl _ | exact List.nil_sublist _ | refine List.Sublist.cons_cons _ ?_ | refine List.Sublist.cons _ ?_ | exact Sbp.refl | exact Sbp.nil | refine Sbp.cons (by repeat (first | exact Rem.head | apply Rem.tail)) ?_ | exact Sbp.app | refine Sbp.skip ?_ | exact List.sublist_append_left _ _ | exact List.sublist_append_right _ _)) rfl (by kernel_rfl) ?_
            refine RT2.take1 (i := 0) rfl (by kernel_rfl) rfl (QO.move) ?_
            refine RT2.take1 (i := 1) rfl (by kernel_rfl) rfl (QO.move) ?_
            refine RT2.take2 (i := 2) rfl (by kernel_rfl) rfl (QO.move) ?_
            refine RT2.take2 (i := 3) rfl (by kernel_rfl) rfl (QO.move) ?_
            first | (refine RT2.take2v (i := 4) rfl (by kernel_rfl) rfl (QO.sub (by rfl) (by rfl) (by omega) (by omega)) (congrArg iv (show (j : Int) - 1 = ((j - 1 : Nat) : Int) by omega)) ?_) | (refine RT2.take2v (i := 4) rfl (by kernel_rfl) rfl (QO.ibin (by rfl) (by rfl) trivial) (congrArg iv (show (j : Int) - 1 = ((j - 1 : Nat) : Int) by omega)) ?_)
            refine RT2.take1 (i := 5) rfl (by kernel_rfl) rfl (QO.move) ?_
            refine RT2.take1 (i := 6) rfl (by kernel_rfl) rfl (QO.move) ?_
            first | (refine RT2.take1v (i := 7) rfl (by kernel_rfl) rfl (QO.sub (by rfl) (by rfl) (by omega) (by omega)) (congrArg iv (show (j : Int) - 1 = ((j - 1 : Nat) : Int) by omega)) ?_) | (refine RT2.take1v (i := 7) rfl (by kernel_rfl) rfl (QO.ibin (by rfl) (by rfl) trivial) (congrArg iv (show (j : Int) - 1 = ((j - 1 : Nat) : Int) by omega)) ?_)
            refine RT2.take1 (i := 8) rfl (by kernel_rfl) rfl (QO.idx Tryd.underlying86 ty91 (by rfl) (by rfl) (by omega) (by omega)) ?_
            refine RT2.take1 (i := 9) rfl (by kernel_rfl) rfl (QO.loadA ty91 (by rfl) (by repeat (first | exact List.Mem.head _ | refine List.Mem.tail _ ?_)) (fl_at (i := j - 1) (by omega)) rfl) ?_
            refine RT2.take2 (i := 10) rfl (by kernel_rfl) rfl (QO.move) ?_
            refine RT2.take2 (i := 11) rfl (by kernel_rfl) rfl (QO.move) ?_
            refine RT2.take2 (i := 12) rfl (by kernel_rfl) rfl (QO.idx Tryd.underlying86 ty91 (by rfl) (by rfl) (by omega) (by omega)) ?_
            refine RT2.take1 (i := 13) rfl (by kernel_rfl) rfl (QO.loadA ty91 (by rfl) (by repeat (first | exact List.Mem.head _ | refine List.Mem.tail _ ?_)) (fl_at (i := j) (by omega)) rfl) ?_
            refine RT2.take1 (i := 14) rfl (by kernel_rfl) rfl (QO.idx Tryd.underlying86 ty91 (by rfl) (by rfl) (by omega) (by omega)) ?_
            refine RT2.oneX (i := 15) (by kernel_rfl) rfl (by kernel_rfl) ?_
            refine RS.storeE ty91 (by rfl) (by rfl) (by rfl) (by rfl) (by rfl) (fl_set (n := n) (i := j) (v := E (j - 1)) (by omega)) (by repeat (first | exact Upd.head | apply Upd.tail)) (fl_fit (by omega)) ?_
            refine RS.nil ⟨(by repeat (first | exact List.Sublist.refl _ | exact List.nil_sublist _ | refine List.Sublist.cons_cons _ ?_ | refine List.Sublist.cons _ ?_ | exact Sbp.refl | exact Sbp.nil | refine Sbp.cons (by repeat (first | exact Rem.head | apply Rem.tail)) ?_ | exact Sbp.app | refine Sbp.skip ?_ | exact List.sublist_append_left _ _ | exact List.sublist_append_right _ _)), ?_⟩
            refine RT2.take2 (i := 16) rfl (by kernel_rfl) rfl (QO.idx Tryd.underlying86 ty91 (by rfl) (by rfl) (by omega) (by omega)) ?_
            refine RT2.oneX (i := 17) (by kernel_rfl) rfl (by kernel_rfl) ?_
            refine RS.storeE ty91 (by rfl) (by rfl) (by rfl) (by rfl) (by rfl) ((fl_set (n := n) (i := j - 1) (v := E j) (by omega)).trans (congrArg (fun q => fl q n junk) (swD_upd E j (j - 1)))) (by repeat (first | exact Upd.head | apply Upd.tail)) (fl_fit (by omega)) ?_
            refine RS.nil ⟨(by repeat (first | exact List.Sublist.refl _ | exact List.nil_sublist _ | refine List.Sublist.cons_cons _ ?_ | refine List.Sublist.cons _ ?_ | exact Sbp.refl | exact Sbp.nil | refine Sbp.cons (by repeat (first | exact Rem.head | apply Rem.tail)) ?_ | exact Sbp.app | refine Sbp.skip ?_ | exact List.sublist_append_left _ _ | exact List.sublist_append_right _ _)), ?_⟩
            refine RT2.done (by kernel_rfl) ?_
            refine blockC_n ?_
            refine thenC_n ?_
            refine CS.region ?_
            refine RS.q rfl (QO.move) ?_
            first | (refine RS.q rfl (QO.sub (by rfl) (by rfl) (by omega) (by omega)) ?_) | (refine RS.q rfl (QO.ibin (by rfl) (by rfl) trivial) ?_)
            refine RS.q rfl (QO.assign) ?_
            refine RS.nil ?_
            refine loopQ_n (by intro t ht; repeat (first | with_reducible exact rfl | exact frame_puts ht (frame_mix ht) _ rfl | (refine frame_put rfl ht ?_) | (refine frame_puts ht ?_ _ rfl) | exact frame_mix ht | (refine frame_mix2 rfl ht ?_) | exact rfl)) ?_
            exact ⟨(swD E j (j - 1), j - 1), ⟨(by show a ≤ j - 1 ∧ j - 1 ≤ i; omega), hM2.trans (Mv.sw E (by omega) (by omega) h3), SoX.step hlt hX (by omega) (by omega) hb2⟩, by show j - 1 < j; omega, kn_cons (congrArg iv (by show (j : Int) - 1 = ((j - 1 : Nat) : Int); omega)) kn_nil, (by repeat (first | exact List.Sublist.refl _ | exact List.nil_sublist _ | refine List.Sublist.cons_cons _ ?_ | refine List.Sublist.cons _ ?_ | exact Sbp.refl | exact Sbp.nil | refine Sbp.cons (by repeat (first | exact Rem.head | apply Rem.tail)) ?_ | exact Sbp.app | refine Sbp.skip ?_ | exact List.sublist_append_left _ _ | exact List.sublist_append_right _ _))⟩
          · refine CS.exit ?_
            refine thenC_x ?_
            refine loopQ_x ?_
            refine blockC_x ?_
            refine blockC_n ?_
            refine thenC_n ?_
            refine CS.region ?_
            refine RS.q rfl (QO.move) ?_
            first | (refine RS.q rfl (QO.add (by rfl) (by rfl) (by omega) (by omega)) ?_) | (refine RS.q rfl (QO.ibin (by rfl) (by rfl) trivial) ?_)
            refine RS.q rfl (QO.assign) ?_
            refine RS.nil ?_
            refine loopQ_n (by intro t ht; repeat (first | with_reducible exact rfl | exact frame_puts ht (frame_mix ht) _ rfl | (refine frame_put rfl ht ?_) | (refine frame_puts ht ?_ _ rfl) | exact frame_mix ht | (refine frame_mix2 rfl ht ?_) | exact rfl)) ?_
            exact ⟨(E, i + 1), ⟨(by show a + 1 ≤ i + 1; omega), .inl (by show i + 1 ≤ b; omega), hM2, SoX.done hlt hX (.inr hb2)⟩, by show b + 1 - (i + 1) < b + 1 - i; omega, (by repeat (first | exact kn_nil | refine kn_cons (by rfl) ?_)), (by repeat (first | exact List.Sublist.refl _ | exact List.nil_sublist _ | refine List.Sublist.cons_cons _ ?_ | refine List.Sublist.cons _ ?_ | exact Sbp.refl | exact Sbp.nil | refine Sbp.cons (by repeat (first | exact Rem.head | apply Rem.tail)) ?_ | exact Sbp.app | refine Sbp.skip ?_ | exact List.sublist_append_left _ _ | exact List.sublist_append_right _ _))⟩
        · have hb1p := of_decide_eq_false hb1
          refine RT.takeOff (i := 4) (dj := 21) rfl rfl (.inl (congrArg Value.bool hb1)) (fun _ => rfl) (by kernel_rfl) rfl ?_
          refine RT.takeOff (i := 5) (dj := 21) rfl rfl (.inl (congrArg Value.bool hb1)) (fun _ => rfl) (by kernel_rfl) rfl ?_
          refine RT.takeOff (i := 6) (dj := 21) rfl rfl (.inl (congrArg Value.bool hb1)) (fun _ => rfl) (by kernel_rfl) rfl ?_
          refine RT.takeOff (i := 7) (dj := 21) rfl rfl (.inl (congrArg Value.bool hb1)) (fun _ => rfl) (by kernel_rfl) rfl ?_
          refine RT.takeOff (i := 8) (dj := 21) rfl rfl (.inl (congrArg Value.bool hb1)) (fun _ => rfl) (by kernel_rfl) rfl ?_
          refine RT.takeOff (i := 9) (dj := 21) rfl rfl (.inl (congrArg Value.bool hb1)) (fun _ => rfl) (by kernel_rfl) rfl ?_
          refine RT.takeOff (i := 10) (dj := 21) rfl rfl (.inl (congrArg Value.bool hb1)) (fun _ => rfl) (by kernel_rfl) rfl ?_
          refine RT.takeOff (i := 11) (dj := 21) rfl rfl (.inl (congrArg Value.bool hb1)) (fun _ => rfl) (by kernel_rfl) rfl ?_
          refine RT.takeOff (i := 12) (dj := 21) rfl rfl (.inl (congrArg Value.bool hb1)) (fun _ => rfl) (by kernel_rfl) rfl ?_
          refine RT.takeOff (i := 13) (dj := 21) rfl rfl (.inl (congrArg Value.bool hb1)) (fun _ => rfl) (by kernel_rfl) rfl ?_
          refine RT.one (i := 14) (by kernel_rfl) rfl rfl ?_
          refine RS.off (dj := 21) rfl (.inl (congrArg Value.bool hb1)) (fun _ => rfl) rfl ?_
          refine RS.nil ⟨(by repeat (first | exact List.Sublist.refl _ | exact List.nil_sublist _ | refine List.Sublist.cons_cons _ ?_ | refine List.Sublist.cons _ ?_ | exact Sbp.refl | exact Sbp.nil | refine Sbp.cons (by repeat (first | exact Rem.head | apply Rem.tail)) ?_ | exact Sbp.app | refine Sbp.skip ?_ | exact List.sublist_append_left _ _ | exact List.sublist_append_right _ _)), ?_⟩
          refine RT.takeOff (i := 15) (dj := 21) rfl rfl (.inl (congrArg Value.bool hb1)) (fun _ => rfl) (by kernel_rfl) rfl ?_
          refine RT.take (i := 16) rfl (by kernel_rfl) rfl (QO.pickF (by rfl) hb1 (by rfl)) ?_
          refine RT.done (by kernel_rfl) ?_
          refine thenC_n ?_
          refine CS.condF (by rfl) rfl ?_
          refine CS.exit ?_
          refine thenC_x ?_
          refine loopQ_x ?_
          refine blockC_x ?_
          refine blockC_n ?_
          refine thenC_n ?_
          refine CS.region ?_
          refine RS.q rfl (QO.move) ?_
          first | (refine RS.q rfl (QO.add (by rfl) (by rfl) (by omega) (by omega)) ?_) | (refine RS.q rfl (QO.ibin (by rfl) (by rfl) trivial) ?_)
          refine RS.q rfl (QO.assign) ?_
          refine RS.nil ?_
          refine loopQ_n (by intro t ht; repeat (first | with_reducible exact rfl | exact frame_puts ht (frame_mix ht) _ rfl | (refine frame_put rfl ht ?_) | (refine frame_puts ht ?_ _ rfl) | exact frame_mix ht | (refine frame_mix2 rfl ht ?_) | exact rfl)) ?_
          exact ⟨(E, i + 1), ⟨(by show a + 1 ≤ i + 1; omega), .inl (by show i + 1 ≤ b; omega), hM2, SoX.done hlt hX (.inl (by omega))⟩, by show b + 1 - (i + 1) < b + 1 - i; omega, (by repeat (first | exact kn_nil | refine kn_cons (by rfl) ?_)), (by repeat (first | exact List.Sublist.refl _ | exact List.nil_sublist _ | refine List.Sublist.cons_cons _ ?_ | refine List.Sublist.cons _ ?_ | exact Sbp.refl | exact Sbp.nil | refine Sbp.cons (by repeat (first | exact Rem.head | apply Rem.tail)) ?_ | exact Sbp.app | refine Sbp.skip ?_ | exact List.sublist_append_left _ _ | exact List.sublist_append_right _ _))⟩
    · have hb0p := of_decide_eq_false hb0
      refine CS.exit ?_
      refine thenC_x ?_
      refine loopQ_x ?_
      refine blockC_x ?_
      refine retQ.mk (H' := ⟨g, 91, fl D n junk⟩ :: HR) (.inl rfl) RVs.nil (by repeat (first | exact List.Sublist.refl _ | exact List.nil_sublist _ | refine List.Sublist.cons_cons _ ?_ | refine List.Sublist.cons _ ?_ | exact Sbp.refl | exact Sbp.nil | refine Sbp.cons (by repeat (first | exact Rem.head | apply Rem.tail)) ?_ | exact Sbp.app | refine Sbp.skip ?_ | exact List.sublist_append_left _ _ | exact List.sublist_append_right _ _)) ?_
      exact ⟨D, rfl, hM, hS.mono (Nat.le_refl _) (by omega)⟩

set_option maxHeartbeats 4000000 in
set_option maxRecDepth 100000 in
theorem symStep (g n c : Nat) (junk : List Value) (HR : HL) (W : World) (fc : FuncId) (hn : n ≤ 1000000) (lt : Pl → Pl → Bool) (hlt : Ord lt) (hok : callOK Tryd.prog fc = true) (hf : ∀ wd Hd, Own W wd Hd → ∀ x y : Pl, PlP x → PlP y → Fn_ Tryd.prog fc #[.agg (plc x).toArray, .agg (plc y).toArray] wd (fun v H => ∃ r : Int, v = iv r ∧ decide (r < 0) = lt x y ∧ H = [])) (k : Nat) (ih : ∀ (a m b : Nat) (d : Nat → Pl), b - a < k → a < m → m < b → b ≤ n → (∀ i, PlP (d i)) → So lt a m d → So lt m b d → FnH Tryd.prog 188 #[.slice (some ⟨g, 0, none⟩) n c, iv (a : Int), iv (m : Int), iv (b : Int), .func (.func fc) #[] #[]] W (⟨g, 91, fl d n junk⟩ :: HR) (fun v H => ∃ d2, H = ⟨g, 91, fl d2 n junk⟩ :: HR ∧ Mv n a b d d2 ∧ So lt a b d2)) (a m b : Nat) (d : Nat → Pl) (hk : b - a = k) (h1 : a < m) (h2 : m < b) (h3 : b ≤ n) (hP : ∀ i, PlP (d i)) (hS1 : So lt a m d) (hS2 : So lt m b d) : FnH Tryd.prog 188 #[.slice (some ⟨g, 0, none⟩) n c, iv (a : Int), iv (m : Int), iv (b : Int), .func (.func fc) #[] #[]] W (⟨g, 91, fl d n junk⟩ :: HR) (fun v H => ∃ d2, H = ⟨g, 91, fl d2 n junk⟩ :: HR ∧ Mv n a b d d2 ∧ So lt a b d2) := by
  refine FnH.intro Tryd.func188 rfl rfl (by rfl) ?_
  refine CS.seq ?_
  refine CS.seq ?_
  refine CS.region ?_
  refine RS.q rfl (QO.move) ?_
  refine RS.q rfl (QO.move) ?_
  first | (refine RS.qv rfl (QO.sub (by rfl) (by rfl) (by omega) (by omega)) (congrArg iv (show (m : Int) - (a : Int) = ((m - a : Nat) : Int) by omega)) ?_) | (refine RS.qv rfl (QO.ibin (by rfl) (by rfl) trivial) (congrArg iv (show (m : Int) - (a : Int) = ((m - a : Nat) : Int) by omega)) ?_)
  refine RS.q rfl (QO.eql (by rfl) (by rfl)) ?_
  refine RS.nil ?_
  refine thenC_n ?_
  refine CS.cond (by rfl) (fun hb0 => ?_) (fun hb0 => ?_)
  · have hb0p := eq_of_beq hb0
    refine CS.seq ?_
    refine CS.region ?_
    refine RS.q rfl (QO.move) ?_
    refine RS.q rfl (QO.assign) ?_
    refine RS.nil ?_
    refine thenC_n ?_
    refine CS.seq ?_
    refine CS.region ?_
    refine RS.q rfl (QO.move) ?_
    refine RS.q rfl (QO.assign) ?_
    refine RS.nil ?_
    refine thenC_n ?_
    refine CS.seq ?_
    refine CS.block ?_
    refine CS.loop (X := Nat × Nat) (10 :: 11 :: 12 :: 31 :: 32 :: 33 :: 34 :: 35 :: 36 :: 37 :: 38 :: 39 :: 40 :: 41 :: 42 :: 43 :: 44 :: 45 :: 46 :: 47 :: 48 :: 49 :: 50 :: 51 :: 52 :: 53 :: []) (fun z => [(10, iv (z.1 : Int)), (11, iv (z.2 : Int))]) (fun z => ⟨g, 91, fl d n junk⟩ :: HR) (fun z => (m ≤ z.1 ∧ z.1 ≤ z.2 ∧ z.2 ≤ b) ∧ (m < z.1 → lt (d (z.1 - 1)) (d a) = true) ∧ (z.2 < b → lt (d z.2) (d a) = false)) (fun z => z.2 - z.1) (m, b) ⟨(by show m ≤ m ∧ m ≤ b ∧ b ≤ b; omega), fun h => absurd h (Nat.lt_irrefl _), fun h => absurd h (Nat.lt_irrefl _)⟩ ?_ ?_ ?_
    · exact (by repeat (first | exact kn_nil | refine kn_cons (by rfl) ?_))
    · exact (by repeat (first | exact List.Sublist.refl _ | exact List.nil_sublist _ | refine List.Sublist.cons_cons _ ?_ | refine List.Sublist.cons _ ?_ | exact Sbp.refl | exact Sbp.nil | refine Sbp.cons (by repeat (first | exact Rem.head | apply Rem.tail)) ?_ | exact Sbp.app | refine Sbp.skip ?_ | exact List.sublist_append_left _ _ | exact List.sublist_append_right _ _))
    · intro z gj3 hz
      obtain ⟨i, j⟩ := z
      obtain ⟨hij, hq1, hq2⟩ := hz
      replace hij : m ≤ i ∧ i ≤ j ∧ j ≤ b := hij
      replace hq1 : m < i → lt (d (i - 1)) (d a) = true := hq1
      replace hq2 : j < b → lt (d j) (d a) = false := hq2
      show CS _ _ _ _ _ (puts (mix _ _ _) [(10, iv (i : Int)), (11, iv (j : Int))]) (⟨g, 91, fl d n junk⟩ :: HR)
      refine CS.seq ?_
      refine CS.seq ?_
      refine CS.region ?_
      refine RS.q rfl (QO.move) ?_
      refine RS.q rfl (QO.move) ?_
      refine RS.q rfl (QO.lss (by rfl) (by rfl)) ?_
      refine RS.nil ?_
      refine thenC_n ?_
      refine CS.cond (by rfl) (fun hb1 => ?_) (fun hb1 => ?_)
      · have hb1p := of_decide_eq_true hb1
        refine CS.skip ?_
        refine thenC_n ?_
        refine CS.block ?_
        refine CS.seq ?_
        refine CS.region ?_
        refine RS.q rfl (QO.move) ?_
        refine RS.q rfl (QO.move) ?_
        first | (refine RS.qv rfl (QO.add (by rfl) (by rfl) (by omega) (by omega)) (congrArg iv (show (i : Int) + (j : Int) = ((i + j : Nat) : Int) by omega)) ?_) | (refine RS.qv rfl (QO.ibin (by rfl) (by rfl) trivial) (congrArg iv (show (i : Int) + (j : Int) = ((i + j : Nat) : Int) by omega)) ?_)
        refine RS.qv rfl (QO.conv_int Tryd.underlying3 Tryd.underlying194 (by rfl)) (congrArg (Value.int .u64) (u64_id (x := i + j) (by omega))) ?_
        refine RS.qv rfl (QO.shr2 (by rfl) (by rfl) (by decide)) (congrArg (Value.int .u64) (half_nat (i + j))) ?_
        refine RS.qv rfl (QO.conv_int Tryd.underlying194 Tryd.underlying3 (by rfl)) (congrArg iv (i64_id (x := (i + j) / 2) (by omega))) ?_
        refine RS.q rfl (QO.assign) ?_
        refine RS.nil ?_
        refine thenC_n ?_
        refine CS.seq ?_
        refine CS.draw 11 rfl (by kernel_rfl) (by kernel_rfl) ?_
        refine RT.take (i := 0) rfl (by kernel_rfl) rfl (QO.move) ?_
        refine RT.take (i := 1) rfl (by kernel_rfl) rfl (QO.move) ?_
        refine RT.take (i := 2) rfl (by kernel_rfl) rfl (QO.move) ?_
        refine RT.take (i := 3) rfl (by kernel_rfl) rfl (QO.idx Tryd.underlying86 ty91 (by rfl) (by rfl) (by omega) (by omega)) ?_
        refine RT.take (i := 4) rfl (by kernel_rfl) rfl (QO.loadA ty91 (by rfl) (by repeat (first | exact List.Mem.head _ | refine List.Mem.tail _ ?_)) (fl_at (i := (i + j) / 2) (by omega)) rfl) ?_
        refine RT.take (i := 5) rfl (by kernel_rfl) rfl (QO.move) ?_
        refine RT.take (i := 6) rfl (by kernel_rfl) rfl (QO.move) ?_
        refine RT.take (i := 7) rfl (by kernel_rfl) rfl (QO.idx Tryd.underlying86 ty91 (by rfl) (by rfl) (by omega) (by omega)) ?_
        refine RT.take (i := 8) rfl (by kernel_rfl) rfl (QO.loadA ty91 (by rfl) (by repeat (first | exact List.Mem.head _ | refine List.Mem.tail _ ?_)) (fl_at (i := a) (by omega)) rfl) ?_
        refine RT.one (i := 9) (by kernel_rfl) rfl rfl ?_
        refine RS.call rfl (by rfl) hok (by rfl) (fun w ho => hf w _ ho (d ((i + j) / 2)) (d a) (hP _) (hP _)) ?_
        rintro _ _ ⟨r49, rfl, hr49, rfl⟩
        refine RS.nil ⟨(by repeat (first | exact List.Sublist.refl _ | exact List.nil_sublist _ | refine List.Sublist.cons_cons _ ?_ | refine List.Sublist.cons _ ?_ | exact Sbp.refl | exact Sbp.nil | refine Sbp.cons (by repeat (first | exact Rem.head | apply Rem.tail)) ?_ | exact Sbp.app | refine Sbp.skip ?_ | exact List.sublist_append_left _ _ | exact List.sublist_append_right _ _)), ?_⟩
        refine RT.takev (i := 10) rfl (by kernel_rfl) rfl (QO.lss (by rfl) (by rfl)) (congrArg Value.bool hr49) ?_
        refine RT.done (by kernel_rfl) ?_
        refine thenC_n ?_
        refine CS.cond (by rfl) (fun hb2 => ?_) (fun hb2 => ?_)
        · refine CS.region ?_
          refine RS.q rfl (QO.move) ?_
          first | (refine RS.q rfl (QO.add (by rfl) (by rfl) (by omega) (by omega)) ?_) | (refine RS.q rfl (QO.ibin (by rfl) (by rfl) trivial) ?_)
          refine RS.q rfl (QO.assign) ?_
          refine RS.nil ?_
          refine blockC_n ?_
          refine loopQ_n (by intro t ht; repeat (first | with_reducible exact rfl | exact frame_puts ht (frame_mix ht) _ rfl | (refine frame_put rfl ht ?_) | (refine frame_puts ht ?_ _ rfl) | exact frame_mix ht | (refine frame_mix2 rfl ht ?_) | exact rfl)) ?_
          exact ⟨(((i + j) / 2) + 1, j), ⟨(by show m ≤ ((i + j) / 2) + 1 ∧ ((i + j) / 2) + 1 ≤ j ∧ j ≤ b; omega), fun _ => (by show lt (d ((i + j) / 2 + 1 - 1)) (d a) = true; rw [Nat.add_sub_cancel]; exact hb2), hq2⟩, by show j - (((i + j) / 2) + 1) < j - i; omega, (by repeat (first | exact kn_nil | refine kn_cons (by rfl) ?_)), (by repeat (first | exact List.Sublist.refl _ | exact List.nil_sublist _ | refine List.Sublist.cons_cons _ ?_ | refine List.Sublist.cons _ ?_ | exact Sbp.refl | exact Sbp.nil | refine Sbp.cons (by repeat (first | exact Rem.head | apply Rem.tail)) ?_ | exact Sbp.app | refine Sbp.skip ?_ | exact List.sublist_append_left _ _ | exact List.sublist_append_right _ _))⟩
        · refine CS.region ?_
          refine RS.q rfl (QO.move) ?_
          refine RS.q rfl (QO.assign) ?_
          refine RS.nil ?_
          refine blockC_n ?_
          refine loopQ_n (by intro t ht; repeat (first | with_reducible exact rfl | exact frame_puts ht (frame_mix ht) _ rfl | (refine frame_put rfl ht ?_) | (refine frame_puts ht ?_ _ rfl) | exact frame_mix ht | (refine frame_mix2 rfl ht ?_) | exact rfl)) ?_
          exact ⟨(i, ((i + j) / 2)), ⟨(by show m ≤ i ∧ i ≤ ((i + j) / 2) ∧ ((i + j) / 2) ≤ b; omega), hq1, fun _ => hb2⟩, by show ((i + j) / 2) - i < j - i; omega, (by repeat (first | exact kn_nil | refine kn_cons (by rfl) ?_)), (by repeat (first | exact List.Sublist.refl _ | exact List.nil_sublist _ | refine List.Sublist.cons_cons _ ?_ | refine List.Sublist.cons _ ?_ | exact Sbp.refl | exact Sbp.nil | refine Sbp.cons (by repeat (first | exact Rem.head | apply Rem.tail)) ?_ | exact Sbp.app | refine Sbp.skip ?_ | exact List.sublist_append_left _ _ | exact List.sublist_append_right _ _))⟩
      · have hb1p := of_decide_eq_false hb1
        refine CS.exit ?_
        refine thenC_x ?_
        refine loopQ_x ?_
        refine blockC_x ?_
        refine thenC_n ?_
        refine CS.seq ?_
        refine CS.seq ?_
        refine CS.region ?_
        refine RS.q rfl (QO.move) ?_
        refine RS.q rfl (QO.assign) ?_
        refine RS.nil ?_
        refine thenC_n ?_
        refine CS.block ?_
        refine CS.loop (X := Nat) (13 :: 55 :: 56 :: 57 :: 58 :: 59 :: 60 :: 61 :: 62 :: 63 :: 64 :: 65 :: 66 :: 67 :: 68 :: 69 :: 70 :: 71 :: 72 :: 73 :: 74 :: 75 :: 76 :: []) (fun q => [(13, iv (q : Int))]) (fun q => ⟨g, 91, fl (rotD d a (a + 1) (q + 1)) n junk⟩ :: HR) (fun q => a ≤ q ∧ q + 1 ≤ i) (fun q => i - q) a ⟨Nat.le_refl _, by omega⟩ ?_ ?_ ?_
        · exact (by repeat (first | exact kn_nil | refine kn_cons (by rfl) ?_))
        · exact (by rw [rot_triv d (by omega) (by omega) (.inr rfl)]; exact (by repeat (first | exact List.Sublist.refl _ | exact List.nil_sublist _ | refine List.Sublist.cons_cons _ ?_ | refine List.Sublist.cons _ ?_ | exact Sbp.refl | exact Sbp.nil | refine Sbp.cons (by repeat (first | exact Rem.head | apply Rem.tail)) ?_ | exact Sbp.app | refine Sbp.skip ?_ | exact List.sublist_append_left _ _ | exact List.sublist_append_right _ _)))
        · intro q gj9 hz
          refine CS.seq ?_
          refine CS.seq ?_
          refine CS.region ?_
          refine RS.q rfl (QO.move) ?_
          refine RS.q rfl (QO.move) ?_
          first | (refine RS.qv rfl (QO.sub (by rfl) (by rfl) (by omega) (by omega)) (congrArg iv (show (i : Int) - 1 = ((i - 1 : Nat) : Int) by omega)) ?_) | (refine RS.qv rfl (QO.ibin (by rfl) (by rfl) trivial) (congrArg iv (show (i : Int) - 1 = ((i - 1 : Nat) : Int) by omega)) ?_)
          refine RS.q rfl (QO.lss (by rfl) (by rfl)) ?_
          refine RS.nil ?_
          refine thenC_n ?_
          refine CS.cond (by rfl) (fun hb3 => ?_) (fun hb3 => ?_)
          · have hb3p := of_decide_eq_true hb3
            refine CS.skip ?_
            refine thenC_n ?_
            refine CS.seq ?_
            refine CS.block ?_
            refine CS.draw2 [15, 17] (HT := HR) (by repeat (first | exact List.Sublist.refl _ | exact List.nil_sublist _ | refine List.Sublist.cons_cons _ ?_ | refine List.Sublist.cons _ ?_ | exact Sbp.refl | exact Sbp.nil | refine Sbp.cons (by repeat (first | exact Rem.head | apply Rem.tail)) ?_ | exact Sbp.app | refine Sbp.skip ?_ | exact List.sublist_append_left _ _ | exact List.sublist_append_right _ _)) rfl (by kernel_rfl) ?_
            refine RT2.take1 (i := 0) rfl (by kernel_rfl) rfl (QO.move) ?_
            refine RT2.take1 (i := 1) rfl (by kernel_rfl) rfl (QO.move) ?_
            refine RT2.take2 (i := 2) rfl (by kernel_rfl) rfl (QO.move) ?_
            refine RT2.take2 (i := 3) rfl (by kernel_rfl) rfl (QO.move) ?_
            first | (refine RT2.take2v (i := 4) rfl (by kernel_rfl) rfl (QO.add (by rfl) (by rfl) (by omega) (by omega)) (congrArg iv (show (q : Int) + 1 = ((q + 1 : Nat) : Int) by omega)) ?_) | (refine RT2.take2v (i := 4) rfl (by kernel_rfl) rfl (QO.ibin (by rfl) (by rfl) trivial) (congrArg iv (show (q : Int) + 1 = ((q + 1 : Nat) : Int) by omega)) ?_)
            refine RT2.take1 (i := 5) rfl (by kernel_rfl) rfl (QO.move) ?_
            refine RT2.take1 (i := 6) rfl (by kernel_rfl) rfl (QO.move) ?_
            first | (refine RT2.take1v (i := 7) rfl (by kernel_rfl) rfl (QO.add (by rfl) (by rfl) (by omega) (by omega)) (congrArg iv (show (q : Int) + 1 = ((q + 1 : Nat) : Int) by omega)) ?_) | (refine RT2.take1v (i := 7) rfl (by kernel_rfl) rfl (QO.ibin (by rfl) (by rfl) trivial) (congrArg iv (show (q : Int) + 1 = ((q + 1 : Nat) : Int) by omega)) ?_)
            refine RT2.take1 (i := 8) rfl (by kernel_rfl) rfl (QO.idx Tryd.underlying86 ty91 (by rfl) (by rfl) (by omega) (by omega)) ?_
            refine RT2.take1 (i := 9) rfl (by kernel_rfl) rfl (QO.loadA ty91 (by rfl) (by repeat (first | exact List.Mem.head _ | refine List.Mem.tail _ ?_)) (fl_at (i := q + 1) (by omega)) rfl) ?_
            refine RT2.take2 (i := 10) rfl (by kernel_rfl) rfl (QO.move) ?_
            refine RT2.take2 (i := 11) rfl (by kernel_rfl) rfl (QO.move) ?_
            refine RT2.take2 (i := 12) rfl (by kernel_rfl) rfl (QO.idx Tryd.underlying86 ty91 (by rfl) (by rfl) (by omega) (by omega)) ?_
            refine RT2.take1 (i := 13) rfl (by kernel_rfl) rfl (QO.loadA ty91 (by rfl) (by repeat (first | exact List.Mem.head _ | refine List.Mem.tail _ ?_)) (fl_at (i := q) (by omega)) rfl) ?_
            refine RT2.take1 (i := 14) rfl (by kernel_rfl) rfl (QO.idx Tryd.underlying86 ty91 (by rfl) (by rfl) (by omega) (by omega)) ?_
            refine RT2.oneX (i := 15) (by kernel_rfl) rfl (by kernel_rfl) ?_
            refine RS.storeE ty91 (by rfl) (by rfl) (by rfl) (by rfl) (by rfl) (fl_set (n := n) (i := q) (v := rotD d a (a + 1) (q + 1) (q + 1)) (by omega)) (by repeat (first | exact Upd.head | apply Upd.tail)) (fl_fit (by omega)) ?_
            refine RS.nil ⟨(by repeat (first | exact List.Sublist.refl _ | exact List.nil_sublist _ | refine List.Sublist.cons_cons _ ?_ | refine List.Sublist.cons _ ?_ | exact Sbp.refl | exact Sbp.nil | refine Sbp.cons (by repeat (first | exact Rem.head | apply Rem.tail)) ?_ | exact Sbp.app | refine Sbp.skip ?_ | exact List.sublist_append_left _ _ | exact List.sublist_append_right _ _)), ?_⟩
            refine RT2.take2 (i := 16) rfl (by kernel_rfl) rfl (QO.idx Tryd.underlying86 ty91 (by rfl) (by rfl) (by omega) (by omega)) ?_
            refine RT2.oneX (i := 17) (by kernel_rfl) rfl (by kernel_rfl) ?_
            refine RS.storeE ty91 (by rfl) (by rfl) (by rfl) (by rfl) (by rfl) ((fl_set (n := n) (i := q + 1) (v := rotD d a (a + 1) (q + 1) q) (by omega)).trans (congrArg (fun q => fl q n junk) ((swD_upd _ _ _).trans (rot_up d a q (by omega))))) (by repeat (first | exact Upd.head | apply Upd.tail)) (fl_fit (by omega)) ?_
            refine RS.nil ⟨(by repeat (first | exact List.Sublist.refl _ | exact List.nil_sublist _ | refine List.Sublist.cons_cons _ ?_ | refine List.Sublist.cons _ ?_ | exact Sbp.refl | exact Sbp.nil | refine Sbp.cons (by repeat (first | exact Rem.head | apply Rem.tail)) ?_ | exact Sbp.app | refine Sbp.skip ?_ | exact List.sublist_append_left _ _ | exact List.sublist_append_right _ _)), ?_⟩
            refine RT2.done (by kernel_rfl) ?_
            refine blockC_n ?_
            refine thenC_n ?_
            refine CS.region ?_
            refine RS.q rfl (QO.move) ?_
            first | (refine RS.q rfl (QO.add (by rfl) (by rfl) (by omega) (by omega)) ?_) | (refine RS.q rfl (QO.ibin (by rfl) (by rfl) trivial) ?_)
            refine RS.q rfl (QO.assign) ?_
            refine RS.nil ?_
            refine loopQ_n (by intro t ht; repeat (first | with_reducible exact rfl | exact frame_puts ht (frame_mix ht) _ rfl | (refine frame_put rfl ht ?_) | (refine frame_puts ht ?_ _ rfl) | exact frame_mix ht | (refine frame_mix2 rfl ht ?_) | exact rfl)) ?_
            exact ⟨q + 1, ⟨by omega, by omega⟩, by omega, (by repeat (first | exact kn_nil | refine kn_cons (by rfl) ?_)), (by repeat (first | exact List.Sublist.refl _ | exact List.nil_sublist _ | refine List.Sublist.cons_cons _ ?_ | refine List.Sublist.cons _ ?_ | exact Sbp.refl | exact Sbp.nil | refine Sbp.cons (by repeat (first | exact Rem.head | apply Rem.tail)) ?_ | exact Sbp.app | refine Sbp.skip ?_ | exact List.sublist_append_left _ _ | exact List.sublist_append_right _ _))⟩
          · have hb3p := of_decide_eq_false hb3
            refine CS.exit ?_
            refine thenC_x ?_
            refine loopQ_x ?_
            refine blockC_x ?_
            refine thenC_n ?_
            refine CS.ret ?_
            refine thenC_r ?_
            refine retQ.mk (H' := ⟨g, 91, fl (rotD d a (a + 1) (q + 1)) n junk⟩ :: HR) (.inr rfl) RVs.nil (by repeat (first | exact List.Sublist.refl _ | exact List.nil_sublist _ | refine List.Sublist.cons_cons _ ?_ | refine List.Sublist.cons _ ?_ | exact Sbp.refl | exact Sbp.nil | refine Sbp.cons (by repeat (first | exact Rem.head | apply Rem.tail)) ?_ | exact Sbp.app | refine Sbp.skip ?_ | exact List.sublist_append_left _ _ | exact List.sublist_append_right _ _)) ?_
            have hqi : q + 1 = i := by omega
            have hm1 : m = a + 1 := by omega
            have hij2 : i = j := by omega
            have h9 := mergeA (i := q + 1) hlt hm1 hS2 (by omega) (by rw [hqi]; exact hq1) (by rw [hqi, hij2]; exact hq2)
            rw [hm1] at h9
            exact ⟨_, rfl, rotM d (Nat.le_refl _) (by omega) (by omega) (by omega) h3, h9⟩
  · have hb0p := ne_of_beq_false hb0
    refine CS.skip ?_
    refine thenC_n ?_
    refine CS.seq ?_
    refine CS.seq ?_
    refine CS.region ?_
    refine RS.q rfl (QO.move) ?_
    refine RS.q rfl (QO.move) ?_
    first | (refine RS.qv rfl (QO.sub (by rfl) (by rfl) (by omega) (by omega)) (congrArg iv (show (b : Int) - (m : Int) = ((b - m : Nat) : Int) by omega)) ?_) | (refine RS.qv rfl (QO.ibin (by rfl) (by rfl) trivial) (congrArg iv (show (b : Int) - (m : Int) = ((b - m : Nat) : Int) by omega)) ?_)
    refine RS.q rfl (QO.eql (by rfl) (by rfl)) ?_
    refine RS.nil ?_
    refine thenC_n ?_
    refine CS.cond (by rfl) (fun hb4 => ?_) (fun hb4 => ?_)
    · have hb4p := eq_of_beq hb4
      refine CS.seq ?_
      refine CS.region ?_
      refine RS.q rfl (QO.move) ?_
      refine RS.q rfl (QO.assign) ?_
      refine RS.nil ?_
      refine thenC_n ?_
      refine CS.seq ?_
      refine CS.region ?_
      refine RS.q rfl (QO.move) ?_
      refine RS.q rfl (QO.assign) ?_
      refine RS.nil ?_
      refine thenC_n ?_
      refine CS.seq ?_
      refine CS.block ?_
      refine CS.loop (X := Nat × Nat) (14 :: 15 :: 16 :: 83 :: 84 :: 85 :: 86 :: 87 :: 88 :: 89 :: 90 :: 91 :: 92 :: 93 :: 94 :: 95 :: 96 :: 97 :: 98 :: 99 :: 100 :: 101 :: 102 :: 103 :: 104 :: 105 :: 106 :: []) (fun z => [(14, iv (z.1 : Int)), (15, iv (z.2 : Int))]) (fun z => ⟨g, 91, fl d n junk⟩ :: HR) (fun z => (a ≤ z.1 ∧ z.1 ≤ z.2 ∧ z.2 ≤ m) ∧ (a < z.1 → lt (d m) (d (z.1 - 1)) = false) ∧ (z.2 < m → lt (d m) (d z.2) = true)) (fun z => z.2 - z.1) (a, m) ⟨(by show a ≤ a ∧ a ≤ m ∧ m ≤ m; omega), fun h => absurd h (Nat.lt_irrefl _), fun h => absurd h (Nat.lt_irrefl _)⟩ ?_ ?_ ?_
      · exact (by repeat (first | exact kn_nil | refine kn_cons (by rfl) ?_))
      · exact (by repeat (first | exact List.Sublist.refl _ | exact List.nil_sublist _ | refine List.Sublist.cons_cons _ ?_ | refine List.Sublist.cons _ ?_ | exact Sbp.refl | exact Sbp.nil | refine Sbp.cons (by repeat (first | exact Rem.head | apply Rem.tail)) ?_ | exact Sbp.app | refine Sbp.skip ?_ | exact List.sublist_append_left _ _ | exact List.sublist_append_right _ _))
      · intro z gj15 hz
        obtain ⟨i, j⟩ := z
        obtain ⟨hij, hq1, hq2⟩ := hz
        replace hij : a ≤ i ∧ i ≤ j ∧ j ≤ m := hij
        replace hq1 : a < i → lt (d m) (d (i - 1)) = false := hq1
        replace hq2 : j < m → lt (d m) (d j) = true := hq2
        show CS _ _ _ _ _ (puts (mix _ _ _) [(14, iv (i : Int)), (15, iv (j : Int))]) (⟨g, 91, fl d n junk⟩ :: HR)
        refine CS.seq ?_
        refine CS.seq ?_
        refine CS.region ?_
        refine RS.q rfl (QO.move) ?_
        refine RS.q rfl (QO.move) ?_
        refine RS.q rfl (QO.lss (by rfl) (by rfl)) ?_
        refine RS.nil ?_
        refine thenC_n ?_
        refine CS.cond (by rfl) (fun hb5 => ?_) (fun hb5 => ?_)
        · have hb5p := of_decide_eq_true hb5
          refine CS.skip ?_
          refine thenC_n ?_
          refine CS.block ?_
          refine CS.seq ?_
          refine CS.region ?_
          refine RS.q rfl (QO.move) ?_
          refine RS.q rfl (QO.move) ?_
          first | (refine RS.qv rfl (QO.add (by rfl) (by rfl) (by omega) (by omega)) (congrArg iv (show (i : Int) + (j : Int) = ((i + j : Nat) : Int) by omega)) ?_) | (refine RS.qv rfl (QO.ibin (by rfl) (by rfl) trivial) (congrArg iv (show (i : Int) + (j : Int) = ((i + j : Nat) : Int) by omega)) ?_)
          refine RS.qv rfl (QO.conv_int Tryd.underlying3 Tryd.underlying194 (by rfl)) (congrArg (Value.int .u64) (u64_id (x := i + j) (by omega))) ?_
          refine RS.qv rfl (QO.shr2 (by rfl) (by rfl) (by decide)) (congrArg (Value.int .u64) (half_nat (i + j))) ?_
          refine RS.qv rfl (QO.conv_int Tryd.underlying194 Tryd.underlying3 (by rfl)) (congrArg iv (i64_id (x := (i + j) / 2) (by omega))) ?_
          refine RS.q rfl (QO.assign) ?_
          refine RS.nil ?_
          refine thenC_n ?_
          refine CS.seq ?_
          refine CS.draw 12 rfl (by kernel_rfl) (by kernel_rfl) ?_
          refine RT.take (i := 0) rfl (by kernel_rfl) rfl (QO.move) ?_
          refine RT.take (i := 1) rfl (by kernel_rfl) rfl (QO.move) ?_
          refine RT.take (i := 2) rfl (by kernel_rfl) rfl (QO.move) ?_
          refine RT.take (i := 3) rfl (by kernel_rfl) rfl (QO.idx Tryd.underlying86 ty91 (by rfl) (by rfl) (by omega) (by omega)) ?_
          refine RT.take (i := 4) rfl (by kernel_rfl) rfl (QO.loadA ty91 (by rfl) (by repeat (first | exact List.Mem.head _ | refine List.Mem.tail _ ?_)) (fl_at (i := m) (by omega)) rfl) ?_
          refine RT.take (i := 5) rfl (by kernel_rfl) rfl (QO.move) ?_
          refine RT.take (i := 6) rfl (by kernel_rfl) rfl (QO.move) ?_
          refine RT.take (i := 7) rfl (by kernel_rfl) rfl (QO.idx Tryd.underlying86 ty91 (by rfl) (by rfl) (by omega) (by omega)) ?_
          refine RT.take (i := 8) rfl (by kernel_rfl) rfl (QO.loadA ty91 (by rfl) (by repeat (first | exact List.Mem.head _ | refine List.Mem.tail _ ?_)) (fl_at (i := (i + j) / 2) (by omega)) rfl) ?_
          refine RT.one (i := 9) (by kernel_rfl) rfl rfl ?_
          refine RS.call rfl (by rfl) hok (by rfl) (fun w ho => hf w _ ho (d m) (d ((i + j) / 2)) (hP _) (hP _)) ?_
          rintro _ _ ⟨r101, rfl, hr101, rfl⟩
          refine RS.nil ⟨(by repeat (first | exact List.Sublist.refl _ | exact List.nil_sublist _ | refine List.Sublist.cons_cons _ ?_ | refine List.Sublist.cons _ ?_ | exact Sbp.refl | exact Sbp.nil | refine Sbp.cons (by repeat (first | exact Rem.head | apply Rem.tail)) ?_ | exact Sbp.app | refine Sbp.skip ?_ | exact List.sublist_append_left _ _ | exact List.sublist_append_right _ _)), ?_⟩
          refine RT.takev (i := 10) rfl (by kernel_rfl) rfl (QO.lss (by rfl) (by rfl)) (congrArg Value.bool hr101) ?_
          refine RT.take (i := 11) rfl (by kernel_rfl) rfl (QO.not (by rfl)) ?_
          refine RT.done (by kernel_rfl) ?_
          refine thenC_n ?_
          refine CS.cond (by rfl) (fun hb6 => ?_) (fun hb6 => ?_)
          · have hb6p := Eq.mp (Bool.not_eq_true' _) hb6
            refine CS.region ?_
            refine RS.q rfl (QO.move) ?_
            first | (refine RS.q rfl (QO.add (by rfl) (by rfl) (by omega) (by omega)) ?_) | (refine RS.q rfl (QO.ibin (by rfl) (by rfl) trivial) ?_)
            refine RS.q rfl (QO.assign) ?_
            refine RS.nil ?_
            refine blockC_n ?_
            refine loopQ_n (by intro t ht; repeat (first | with_reducible exact rfl | exact frame_puts ht (frame_mix ht) _ rfl | (refine frame_put rfl ht ?_) | (refine frame_puts ht ?_ _ rfl) | exact frame_mix ht | (refine frame_mix2 rfl ht ?_) | exact rfl)) ?_
            exact ⟨(((i + j) / 2) + 1, j), ⟨(by show a ≤ ((i + j) / 2) + 1 ∧ ((i + j) / 2) + 1 ≤ j ∧ j ≤ m; omega), fun _ => (by show lt (d m) (d ((i + j) / 2 + 1 - 1)) = false; rw [Nat.add_sub_cancel]; exact hb6p), hq2⟩, by show j - (((i + j) / 2) + 1) < j - i; omega, (by repeat (first | exact kn_nil | refine kn_cons (by rfl) ?_)), (by repeat (first | exact List.Sublist.refl _ | exact List.nil_sublist _ | refine List.Sublist.cons_cons _ ?_ | refine List.Sublist.cons _ ?_ | exact Sbp.refl | exact Sbp.nil | refine Sbp.cons (by repeat (first | exact Rem.head | apply Rem.tail)) ?_ | exact Sbp.app | refine Sbp.skip ?_ | exact List.sublist_append_left _ _ | exact List.sublist_append_right _ _))⟩
          · have hb6p := Eq.mp (Bool.not_eq_false' _) hb6
            refine CS.region ?_
            refine RS.q rfl (QO.move) ?_
            refine RS.q rfl (QO.assign) ?_
            refine RS.nil ?_
            refine blockC_n ?_
            refine loopQ_n (by intro t ht; repeat (first | with_reducible exact rfl | exact frame_puts ht (frame_mix ht) _ rfl | (refine frame_put rfl ht ?_) | (refine frame_puts ht ?_ _ rfl) | exact frame_mix ht | (refine frame_mix2 rfl ht ?_) | exact rfl)) ?_
            exact ⟨(i, ((i + j) / 2)), ⟨(by show a ≤ i ∧ i ≤ ((i + j) / 2) ∧ ((i + j) / 2) ≤ m; omega), hq1, fun _ => hb6p⟩, by show ((i + j) / 2) - i < j - i; omega, (by repeat (first | exact kn_nil | refine kn_cons (by rfl) ?_)), (by repeat (first | exact List.Sublist.refl _ | exact List.nil_sublist _ | refine List.Sublist.cons_cons _ ?_ | refine List.Sublist.cons _ ?_ | exact Sbp.refl | exact Sbp.nil | refine Sbp.cons (by repeat (first | exact Rem.head | apply Rem.tail)) ?_ | exact Sbp.app | refine Sbp.skip ?_ | exact List.sublist_append_left _ _ | exact List.sublist_append_right _ _))⟩
        · have hb5p := of_decide_eq_false hb5
          refine CS.exit ?_
          refine thenC_x ?_
          refine loopQ_x ?_
          refine blockC_x ?_
          refine thenC_n ?_
          refine CS.seq ?_
          refine CS.seq ?_
          refine CS.region ?_
          refine RS.q rfl (QO.move) ?_
          refine RS.q rfl (QO.assign) ?_
          refine RS.nil ?_
          refine thenC_n ?_
          refine CS.block ?_
          refine CS.loop (X := Nat) (17 :: 108 :: 109 :: 110 :: 111 :: 112 :: 113 :: 114 :: 115 :: 116 :: 117 :: 118 :: 119 :: 120 :: 121 :: 122 :: 123 :: 124 :: 125 :: 126 :: 127 :: 128 :: []) (fun q => [(17, iv (q : Int))]) (fun q => ⟨g, 91, fl (rotD d q m (m + 1)) n junk⟩ :: HR) (fun q => i ≤ q ∧ q ≤ m) (fun q => q) m ⟨by omega, Nat.le_refl _⟩ ?_ ?_ ?_
          · exact (by repeat (first | exact kn_nil | refine kn_cons (by rfl) ?_))
          · exact (by rw [rot_triv d (by omega) (by omega) (.inl rfl)]; exact (by repeat (first | exact List.Sublist.refl _ | exact List.nil_sublist _ | refine List.Sublist.cons_cons _ ?_ | refine List.Sublist.cons _ ?_ | exact Sbp.refl | exact Sbp.nil | refine Sbp.cons (by repeat (first | exact Rem.head | apply Rem.tail)) ?_ | exact Sbp.app | refine Sbp.skip ?_ | exact List.sublist_append_left _ _ | exact List.sublist_append_right _ _)))
          · intro q gj21 hz
            refine CS.seq ?_
            refine CS.seq ?_
            refine CS.region ?_
            refine RS.q rfl (QO.move) ?_
            refine RS.q rfl (QO.move) ?_
            refine RS.q rfl (QO.gtr (by rfl) (by rfl)) ?_
            refine RS.nil ?_
            refine thenC_n ?_
            refine CS.cond (by rfl) (fun hb7 => ?_) (fun hb7 => ?_)
            · have hb7p := of_decide_eq_true hb7
              refine CS.skip ?_
              refine thenC_n ?_
              refine CS.seq ?_
              refine CS.block ?_
              refine CS.draw2 [15, 17] (HT := HR) (by repeat (first | exact List.Sublist.refl _ | exact List.nil_sublist _ | refine List.Sublist.cons_cons _ ?_ | refine List.Sublist.cons _ ?_ | exact Sbp.refl | exact Sbp.nil | refine Sbp.cons (by repeat (first | exact Rem.head | apply Rem.tail)) ?_ | exact Sbp.app | refine Sbp.skip ?_ | exact List.sublist_append_left _ _ | exact List.sublist_append_right _ _)) rfl (by kernel_rfl) ?_
              refine RT2.take1 (i := 0) rfl (by kernel_rfl) rfl (QO.move) ?_
              refine RT2.take1 (i := 1) rfl (by kernel_rfl) rfl (QO.move) ?_
              refine RT2.take2 (i := 2) rfl (by kernel_rfl) rfl (QO.move) ?_
              refine RT2.take2 (i := 3) rfl (by kernel_rfl) rfl (QO.move) ?_
              first | (refine RT2.take2v (i := 4) rfl (by kernel_rfl) rfl (QO.sub (by rfl) (by rfl) (by omega) (by omega)) (congrArg iv (show (q : Int) - 1 = ((q - 1 : Nat) : Int) by omega)) ?_) | (refine RT2.take2v (i := 4) rfl (by kernel_rfl) rfl (QO.ibin (by rfl) (by rfl) trivial) (congrArg iv (show (q : Int) - 1 = ((q - 1 : Nat) : Int) by omega)) ?_)
              refine RT2.take1 (i := 5) rfl (by kernel_rfl) rfl (QO.move) ?_
              refine RT2.take1 (i := 6) rfl (by kernel_rfl) rfl (QO.move) ?_
              first | (refine RT2.take1v (i := 7) rfl (by kernel_rfl) rfl (QO.sub (by rfl) (by rfl) (by omega) (by omega)) (congrArg iv (show (q : Int) - 1 = ((q - 1 : Nat) : Int) by omega)) ?_) | (refine RT2.take1v (i := 7) rfl (by kernel_rfl) rfl (QO.ibin (by rfl) (by rfl) trivial) (congrArg iv (show (q : Int) - 1 = ((q - 1 : Nat) : Int) by omega)) ?_)
              refine RT2.take1 (i := 8) rfl (by kernel_rfl) rfl (QO.idx Tryd.underlying86 ty91 (by rfl) (by rfl) (by omega) (by omega)) ?_
              refine RT2.take1 (i := 9) rfl (by kernel_rfl) rfl (QO.loadA ty91 (by rfl) (by repeat (first | exact List.Mem.head _ | refine List.Mem.tail _ ?_)) (fl_at (i := q - 1) (by omega)) rfl) ?_
              refine RT2.take2 (i := 10) rfl (by kernel_rfl) rfl (QO.move) ?_
              refine RT2.take2 (i := 11) rfl (by kernel_rfl) rfl (QO.move) ?_
              refine RT2.take2 (i := 12) rfl (by kernel_rfl) rfl (QO.idx Tryd.underlying86 ty91 (by rfl) (by rfl) (by omega) (by omega)) ?_
              refine RT2.take1 (i := 13) rfl (by kernel_rfl) rfl (QO.loadA ty91 (by rfl) (by repeat (first | exact List.Mem.head _ | refine List.Mem.tail _ ?_)) (fl_at (i := q) (by omega)) rfl) ?_
              refine RT2.take1 (i := 14) rfl (by kernel_rfl) rfl (QO.idx Tryd.underlying86 ty91 (by rfl) (by rfl) (by omega) (by omega)) ?_
              refine RT2.oneX (i := 15) (by kernel_rfl) rfl (by kernel_rfl) ?_
              refine RS.storeE ty91 (by rfl) (by rfl) (by rfl) (by rfl) (by rfl) (fl_set (n := n) (i := q) (v := rotD d q m (m + 1) (q - 1)) (by omega)) (by repeat (first | exact Upd.head | apply Upd.tail)) (fl_fit (by omega)) ?_
              refine RS.nil ⟨(by repeat (first | exact List.Sublist.refl _ | exact List.nil_sublist _ | refine List.Sublist.cons_cons _ ?_ | refine List.Sublist.cons _ ?_ | exact Sbp.refl | exact Sbp.nil | refine Sbp.cons (by repeat (first | exact Rem.head | apply Rem.tail)) ?_ | exact Sbp.app | refine Sbp.skip ?_ | exact List.sublist_append_left _ _ | exact List.sublist_append_right _ _)), ?_⟩
              refine RT2.take2 (i := 16) rfl (by kernel_rfl) rfl (QO.idx Tryd.underlying86 ty91 (by rfl) (by rfl) (by omega) (by omega)) ?_
              refine RT2.oneX (i := 17) (by kernel_rfl) rfl (by kernel_rfl) ?_
              refine RS.storeE ty91 (by rfl) (by rfl) (by rfl) (by rfl) (by rfl) ((fl_set (n := n) (i := q - 1) (v := rotD d q m (m + 1) q) (by omega)).trans (congrArg (fun q => fl q n junk) ((swD_upd _ _ _).trans (rot_dn' d (by omega) (by omega))))) (by repeat (first | exact Upd.head | apply Upd.tail)) (fl_fit (by omega)) ?_
              refine RS.nil ⟨(by repeat (first | exact List.Sublist.refl _ | exact List.nil_sublist _ | refine List.Sublist.cons_cons _ ?_ | refine List.Sublist.cons _ ?_ | exact Sbp.refl | exact Sbp.nil | refine Sbp.cons (by repeat (first | exact Rem.head | apply Rem.tail)) ?_ | exact Sbp.app | refine Sbp.skip ?_ | exact List.sublist_append_left _ _ | exact List.sublist_append_right _ _)), ?_⟩
              refine RT2.done (by kernel_rfl) ?_
              refine blockC_n ?_
              refine thenC_n ?_
              refine CS.region ?_
              refine RS.q rfl (QO.move) ?_
              first | (refine RS.q rfl (QO.sub (by rfl) (by rfl) (by omega) (by omega)) ?_) | (refine RS.q rfl (QO.ibin (by rfl) (by rfl) trivial) ?_)
              refine RS.q rfl (QO.assign) ?_
              refine RS.nil ?_
              refine loopQ_n (by intro t ht; repeat (first | with_reducible exact rfl | exact frame_puts ht (frame_mix ht) _ rfl | (refine frame_put rfl ht ?_) | (refine frame_puts ht ?_ _ rfl) | exact frame_mix ht | (refine frame_mix2 rfl ht ?_) | exact rfl)) ?_
              exact ⟨q - 1, ⟨by omega, by omega⟩, by omega, kn_cons (congrArg iv (by show (q : Int) - 1 = ((q - 1 : Nat) : Int); omega)) kn_nil, (by repeat (first | exact List.Sublist.refl _ | exact List.nil_sublist _ | refine List.Sublist.cons_cons _ ?_ | refine List.Sublist.cons _ ?_ | exact Sbp.refl | exact Sbp.nil | refine Sbp.cons (by repeat (first | exact Rem.head | apply Rem.tail)) ?_ | exact Sbp.app | refine Sbp.skip ?_ | exact List.sublist_append_left _ _ | exact List.sublist_append_right _ _))⟩
            · have hb7p := of_decide_eq_false hb7
              refine CS.exit ?_
              refine thenC_x ?_
              refine loopQ_x ?_
              refine blockC_x ?_
              refine thenC_n ?_
              refine CS.ret ?_
              refine thenC_r ?_
              refine retQ.mk (H' := ⟨g, 91, fl (rotD d q m (m + 1)) n junk⟩ :: HR) (.inr rfl) RVs.nil (by repeat (first | exact List.Sublist.refl _ | exact List.nil_sublist _ | refine List.Sublist.cons_cons _ ?_ | refine List.Sublist.cons _ ?_ | exact Sbp.refl | exact Sbp.nil | refine Sbp.cons (by repeat (first | exact Rem.head | apply Rem.tail)) ?_ | exact Sbp.app | refine Sbp.skip ?_ | exact List.sublist_append_left _ _ | exact List.sublist_append_right _ _)) ?_
              have hqi : q = i := by omega
              have hm1 : b = m + 1 := by omega
              have hij2 : i = j := by omega
              have h9 := mergeB (i := q) hlt hm1 hS1 (by omega) (by rw [hqi]; exact hq1) (by rw [hqi, hij2]; exact hq2)
              rw [hm1] at h9 ⊢
              exact ⟨_, rfl, rotM d (by omega) (by omega) (by omega) (Nat.le_refl _) (by omega), h9⟩
    · have hb4p := ne_of_beq_false hb4
      refine CS.skip ?_
      refine thenC_n ?_
      refine CS.seq ?_
      refine CS.region ?_
      refine RS.q rfl (QO.move) ?_
      refine RS.q rfl (QO.move) ?_
      first | (refine RS.qv rfl (QO.add (by rfl) (by rfl) (by omega) (by omega)) (congrArg iv (show (a : Int) + (b : Int) = ((a + b : Nat) : Int) by omega)) ?_) | (refine RS.qv rfl (QO.ibin (by rfl) (by rfl) trivial) (congrArg iv (show (a : Int) + (b : Int) = ((a + b : Nat) : Int) by omega)) ?_)
      refine RS.qv rfl (QO.conv_int Tryd.underlying3 Tryd.underlying194 (by rfl)) (congrArg (Value.int .u64) (u64_id (x := a + b) (by omega))) ?_
      refine RS.qv rfl (QO.shr2 (by rfl) (by rfl) (by decide)) (congrArg (Value.int .u64) (half_nat (a + b))) ?_
      refine RS.qv rfl (QO.conv_int Tryd.underlying194 Tryd.underlying3 (by rfl)) (congrArg iv (i64_id (x := (a + b) / 2) (by omega))) ?_
      refine RS.q rfl (QO.assign) ?_
      refine RS.nil ?_
      refine thenC_n ?_
      refine CS.seq ?_
      refine CS.region ?_
      refine RS.q rfl (QO.move) ?_
      refine RS.q rfl (QO.move) ?_
      first | (refine RS.qv rfl (QO.add (by rfl) (by rfl) (by omega) (by omega)) (congrArg iv (show ((((a + b) / 2) : Nat) : Int) + (m : Int) = (((a + b) / 2 + m : Nat) : Int) by omega)) ?_) | (refine RS.qv rfl (QO.ibin (by rfl) (by rfl) trivial) (congrArg iv (show ((((a + b) / 2) : Nat) : Int) + (m : Int) = (((a + b) / 2 + m : Nat) : Int) by omega)) ?_)
      refine RS.q rfl (QO.assign) ?_
      refine RS.nil ?_
      refine thenC_n ?_
      refine CS.seq ?_
      refine CS.region ?_
      refine RS.q rfl (QO.assign) ?_
      refine RS.q rfl (QO.assign) ?_
      refine RS.nil ?_
      refine thenC_n ?_
      refine CS.cut (X := Nat × Nat) [20, 21, 138, 139, 140, 141, 142, 143, 144, 145, 146] (fun z => [(20, iv (z.1 : Int)), (21, iv (z.2 : Int))]) (fun z => ⟨g, 91, fl d n junk⟩ :: HR) (fun z => ((a + b) / 2 < m ∧ z.1 = (a + b) / 2 + m - b ∧ z.2 = (a + b) / 2) ∨ (m ≤ (a + b) / 2 ∧ z.1 = a ∧ z.2 = m)) ?_ ?_
      · refine CS.seq ?_
        refine CS.region ?_
        refine RS.q rfl (QO.move) ?_
        refine RS.q rfl (QO.move) ?_
        refine RS.q rfl (QO.gtr (by rfl) (by rfl)) ?_
        refine RS.nil ?_
        refine thenC_n ?_
        refine CS.cond (by rfl) (fun hb8 => ?_) (fun hb8 => ?_)
        · have hb8p := of_decide_eq_true hb8
          refine CS.seq ?_
          refine CS.region ?_
          refine RS.q rfl (QO.move) ?_
          refine RS.q rfl (QO.move) ?_
          first | (refine RS.qv rfl (QO.sub (by rfl) (by rfl) (by omega) (by omega)) (congrArg iv (show (((a + b) / 2 + m : Nat) : Int) - (b : Int) = (((a + b) / 2 + m - b : Nat) : Int) by omega)) ?_) | (refine RS.qv rfl (QO.ibin (by rfl) (by rfl) trivial) (congrArg iv (show (((a + b) / 2 + m : Nat) : Int) - (b : Int) = (((a + b) / 2 + m - b : Nat) : Int) by omega)) ?_)
          refine RS.q rfl (QO.assign) ?_
          refine RS.nil ?_
          refine thenC_n ?_
          refine CS.region ?_
          refine RS.q rfl (QO.move) ?_
          refine RS.q rfl (QO.assign) ?_
          refine RS.nil ?_
          refine cutQ_n (by intro t ht; repeat (first | with_reducible exact rfl | exact frame_puts ht (frame_mix ht) _ rfl | (refine frame_put rfl ht ?_) | (refine frame_puts ht ?_ _ rfl) | exact frame_mix ht | (refine frame_mix2 rfl ht ?_) | exact rfl)) ?_
          exact ⟨((a + b) / 2 + m - b, (a + b) / 2), .inl ⟨by omega, rfl, rfl⟩, (by repeat (first | exact kn_nil | refine kn_cons (by rfl) ?_)), (by repeat (first | exact List.Sublist.refl _ | exact List.nil_sublist _ | refine List.Sublist.cons_cons _ ?_ | refine List.Sublist.cons _ ?_ | exact Sbp.refl | exact Sbp.nil | refine Sbp.cons (by repeat (first | exact Rem.head | apply Rem.tail)) ?_ | exact Sbp.app | refine Sbp.skip ?_ | exact List.sublist_append_left _ _ | exact List.sublist_append_right _ _))⟩
        · have hb8p := of_decide_eq_false hb8
          refine CS.seq ?_
          refine CS.region ?_
          refine RS.q rfl (QO.move) ?_
          refine RS.q rfl (QO.assign) ?_
          refine RS.nil ?_
          refine thenC_n ?_
          refine CS.region ?_
          refine RS.q rfl (QO.move) ?_
          refine RS.q rfl (QO.assign) ?_
          refine RS.nil ?_
          refine cutQ_n (by intro t ht; repeat (first | with_reducible exact rfl | exact frame_puts ht (frame_mix ht) _ rfl | (refine frame_put rfl ht ?_) | (refine frame_puts ht ?_ _ rfl) | exact frame_mix ht | (refine frame_mix2 rfl ht ?_) | exact rfl)) ?_
          exact ⟨(a, m), .inr ⟨by omega, rfl, rfl⟩, (by repeat (first | exact kn_nil | refine kn_cons (by rfl) ?_)), (by repeat (first | exact List.Sublist.refl _ | exact List.nil_sublist _ | refine List.Sublist.cons_cons _ ?_ | refine List.Sublist.cons _ ?_ | exact Sbp.refl | exact Sbp.nil | refine Sbp.cons (by repeat (first | exact Rem.head | apply Rem.tail)) ?_ | exact Sbp.app | refine Sbp.skip ?_ | exact List.sublist_append_left _ _ | exact List.sublist_append_right _ _))⟩
      · intro z gj hz
        obtain ⟨lo, hi⟩ := z
        replace hz : ((a + b) / 2 < m ∧ lo = (a + b) / 2 + m - b ∧ hi = (a + b) / 2) ∨ (m ≤ (a + b) / 2 ∧ lo = a ∧ hi = m) := hz
        have hlh : lo ≤ hi ∧ hi ≤ m ∧ a ≤ lo := by omega
        have hzz := hz
        show CS _ _ _ _ _ (puts (mix _ _ _) [(20, iv (lo : Int)), (21, iv (hi : Int))]) (⟨g, 91, fl d n junk⟩ :: HR)
        refine CS.seq ?_
        refine CS.region ?_
        refine RS.q rfl (QO.move) ?_
        first | (refine RS.qv rfl (QO.sub (by rfl) (by rfl) (by omega) (by omega)) (congrArg iv (show (((a + b) / 2 + m : Nat) : Int) - 1 = (((a + b) / 2 + m - 1 : Nat) : Int) by omega)) ?_) | (refine RS.qv rfl (QO.ibin (by rfl) (by rfl) trivial) (congrArg iv (show (((a + b) / 2 + m : Nat) : Int) - 1 = (((a + b) / 2 + m - 1 : Nat) : Int) by omega)) ?_)
        refine RS.q rfl (QO.assign) ?_
        refine RS.nil ?_
        refine thenC_n ?_
        refine CS.seq ?_
        refine CS.block ?_
        refine CS.loop (X := Nat × Nat) (20 :: 21 :: 23 :: 149 :: 150 :: 151 :: 152 :: 153 :: 154 :: 155 :: 156 :: 157 :: 158 :: 159 :: 160 :: 161 :: 162 :: 163 :: 164 :: 165 :: 166 :: 167 :: 168 :: 169 :: 170 :: 171 :: 172 :: 173 :: 174 :: []) (fun z => [(20, iv (z.1 : Int)), (21, iv (z.2 : Int))]) (fun z => ⟨g, 91, fl d n junk⟩ :: HR) (fun z => (lo ≤ z.1 ∧ z.1 ≤ z.2 ∧ z.2 ≤ hi) ∧ (lo < z.1 → lt (d ((a + b) / 2 + m - 1 - (z.1 - 1))) (d (z.1 - 1)) = false) ∧ (z.2 < hi → lt (d ((a + b) / 2 + m - 1 - z.2)) (d z.2) = true)) (fun z => z.2 - z.1) (lo, hi) ⟨(by show lo ≤ lo ∧ lo ≤ hi ∧ hi ≤ hi; omega), fun h => absurd h (Nat.lt_irrefl _), fun h => absurd h (Nat.lt_irrefl _)⟩ ?_ ?_ ?_
        · exact (by repeat (first | exact kn_nil | refine kn_cons (by rfl) ?_))
        · exact (by repeat (first | exact List.Sublist.refl _ | exact List.nil_sublist _ | refine List.Sublist.cons_cons _ ?_ | refine List.Sublist.cons _ ?_ | exact Sbp.refl | exact Sbp.nil | refine Sbp.cons (by repeat (first | exact Rem.head | apply Rem.tail)) ?_ | exact Sbp.app | refine Sbp.skip ?_ | exact List.sublist_append_left _ _ | exact List.sublist_append_right _ _))
        · intro z gj33 hz
          obtain ⟨s, r⟩ := z
          obtain ⟨hij, hq1, hq2⟩ := hz
          replace hij : lo ≤ s ∧ s ≤ r ∧ r ≤ hi := hij
          replace hq1 : lo < s → lt (d ((a + b) / 2 + m - 1 - (s - 1))) (d (s - 1)) = false := hq1
          replace hq2 : r < hi → lt (d ((a + b) / 2 + m - 1 - r)) (d r) = true := hq2
          show CS _ _ _ _ _ (puts (mix _ _ _) [(20, iv (s : Int)), (21, iv (r : Int))]) (⟨g, 91, fl d n junk⟩ :: HR)
          refine CS.seq ?_
          refine CS.seq ?_
          refine CS.region ?_
          refine RS.q rfl (QO.move) ?_
          refine RS.q rfl (QO.move) ?_
          refine RS.q rfl (QO.lss (by rfl) (by rfl)) ?_
          refine RS.nil ?_
          refine thenC_n ?_
          refine CS.cond (by rfl) (fun hb9 => ?_) (fun hb9 => ?_)
          · have hb9p := of_decide_eq_true hb9
            refine CS.skip ?_
            refine thenC_n ?_
            refine CS.block ?_
            refine CS.seq ?_
            refine CS.region ?_
            refine RS.q rfl (QO.move) ?_
            refine RS.q rfl (QO.move) ?_
            first | (refine RS.qv rfl (QO.add (by rfl) (by rfl) (by omega) (by omega)) (congrArg iv (show (s : Int) + (r : Int) = ((s + r : Nat) : Int) by omega)) ?_) | (refine RS.qv rfl (QO.ibin (by rfl) (by rfl) trivial) (congrArg iv (show (s : Int) + (r : Int) = ((s + r : Nat) : Int) by omega)) ?_)
            refine RS.qv rfl (QO.conv_int Tryd.underlying3 Tryd.underlying194 (by rfl)) (congrArg (Value.int .u64) (u64_id (x := s + r) (by omega))) ?_
            refine RS.qv rfl (QO.shr2 (by rfl) (by rfl) (by decide)) (congrArg (Value.int .u64) (half_nat (s + r))) ?_
            refine RS.qv rfl (QO.conv_int Tryd.underlying194 Tryd.underlying3 (by rfl)) (congrArg iv (i64_id (x := (s + r) / 2) (by omega))) ?_
            refine RS.q rfl (QO.assign) ?_
            refine RS.nil ?_
            refine thenC_n ?_
            refine CS.seq ?_
            refine CS.draw 14 rfl (by kernel_rfl) (by kernel_rfl) ?_
            refine RT.take (i := 0) rfl (by kernel_rfl) rfl (QO.move) ?_
            refine RT.take (i := 1) rfl (by kernel_rfl) rfl (QO.move) ?_
            refine RT.take (i := 2) rfl (by kernel_rfl) rfl (QO.move) ?_
            refine RT.take (i := 3) rfl (by kernel_rfl) rfl (QO.move) ?_
            first | (refine RT.takev (i := 4) rfl (by kernel_rfl) rfl (QO.sub (by rfl) (by rfl) (by omega) (by omega)) (congrArg iv (show (((a + b) / 2 + m - 1 : Nat) : Int) - (((s + r) / 2 : Nat) : Int) = (((a + b) / 2 + m - 1 - (s + r) / 2 : Nat) : Int) by omega)) ?_) | (refine RT.takev (i := 4) rfl (by kernel_rfl) rfl (QO.ibin (by rfl) (by rfl) trivial) (congrArg iv (show (((a + b) / 2 + m - 1 : Nat) : Int) - (((s + r) / 2 : Nat) : Int) = (((a + b) / 2 + m - 1 - (s + r) / 2 : Nat) : Int) by omega)) ?_)
            refine RT.take (i := 5) rfl (by kernel_rfl) rfl (QO.idx Tryd.underlying86 ty91 (by rfl) (by rfl) (by omega) (by omega)) ?_
            refine RT.take (i := 6) rfl (by kernel_rfl) rfl (QO.loadA ty91 (by rfl) (by repeat (first | exact List.Mem.head _ | refine List.Mem.tail _ ?_)) (fl_at (i := (a + b) / 2 + m - 1 - (s + r) / 2) (by omega)) rfl) ?_
            refine RT.take (i := 7) rfl (by kernel_rfl) rfl (QO.move) ?_
            refine RT.take (i := 8) rfl (by kernel_rfl) rfl (QO.move) ?_
            refine RT.take (i := 9) rfl (by kernel_rfl) rfl (QO.idx Tryd.underlying86 ty91 (by rfl) (by rfl) (by omega) (by omega)) ?_
            refine RT.take (i := 10) rfl (by kernel_rfl) rfl (QO.loadA ty91 (by rfl) (by repeat (first | exact List.Mem.head _ | refine List.Mem.tail _ ?_)) (fl_at (i := (s + r) / 2) (by omega)) rfl) ?_
            refine RT.one (i := 11) (by kernel_rfl) rfl rfl ?_
            refine RS.call rfl (by rfl) hok (by rfl) (fun w ho => hf w _ ho (d ((a + b) / 2 + m - 1 - (s + r) / 2)) (d ((s + r) / 2)) (hP _) (hP _)) ?_
            rintro _ _ ⟨r169, rfl, hr169, rfl⟩
            refine RS.nil ⟨(by repeat (first | exact List.Sublist.refl _ | exact List.nil_sublist _ | refine List.Sublist.cons_cons _ ?_ | refine List.Sublist.cons _ ?_ | exact Sbp.refl | exact Sbp.nil | refine Sbp.cons (by repeat (first | exact Rem.head | apply Rem.tail)) ?_ | exact Sbp.app | refine Sbp.skip ?_ | exact List.sublist_append_left _ _ | exact List.sublist_append_right _ _)), ?_⟩
            refine RT.takev (i := 12) rfl (by kernel_rfl) rfl (QO.lss (by rfl) (by rfl)) (congrArg Value.bool hr169) ?_
            refine RT.take (i := 13) rfl (by kernel_rfl) rfl (QO.not (by rfl)) ?_
            refine RT.done (by kernel_rfl) ?_
            refine thenC_n ?_
            refine CS.cond (by rfl) (fun hb10 => ?_) (fun hb10 => ?_)
            · have hb10p := Eq.mp (Bool.not_eq_true' _) hb10
              refine CS.region ?_
              refine RS.q rfl (QO.move) ?_
              first | (refine RS.q rfl (QO.add (by rfl) (by rfl) (by omega) (by omega)) ?_) | (refine RS.q rfl (QO.ibin (by rfl) (by rfl) trivial) ?_)
              refine RS.q rfl (QO.assign) ?_
              refine RS.nil ?_
              refine blockC_n ?_
              refine loopQ_n (by intro t ht; repeat (first | with_reducible exact rfl | exact frame_puts ht (frame_mix ht) _ rfl | (refine frame_put rfl ht ?_) | (refine frame_puts ht ?_ _ rfl) | exact frame_mix ht | (refine frame_mix2 rfl ht ?_) | exact rfl)) ?_
              exact ⟨(((s + r) / 2) + 1, r), ⟨(by show lo ≤ ((s + r) / 2) + 1 ∧ ((s + r) / 2) + 1 ≤ r ∧ r ≤ hi; omega), fun _ => (by show lt (d ((a + b) / 2 + m - 1 - ((s + r) / 2 + 1 - 1))) (d ((s + r) / 2 + 1 - 1)) = false; rw [Nat.add_sub_cancel]; exact hb10p), hq2⟩, by show r - (((s + r) / 2) + 1) < r - s; omega, (by repeat (first | exact kn_nil | refine kn_cons (by rfl) ?_)), (by repeat (first | exact List.Sublist.refl _ | exact List.nil_sublist _ | refine List.Sublist.cons_cons _ ?_ | refine List.Sublist.cons _ ?_ | exact Sbp.refl | exact Sbp.nil | refine Sbp.cons (by repeat (first | exact Rem.head | apply Rem.tail)) ?_ | exact Sbp.app | refine Sbp.skip ?_ | exact List.sublist_append_left _ _ | exact List.sublist_append_right _ _))⟩
            · have hb10p := Eq.mp (Bool.not_eq_false' _) hb10
              refine CS.region ?_
              refine RS.q rfl (QO.move) ?_
              refine RS.q rfl (QO.assign) ?_
              refine RS.nil ?_
              refine blockC_n ?_
              refine loopQ_n (by intro t ht; repeat (first | with_reducible exact rfl | exact frame_puts ht (frame_mix ht) _ rfl | (refine frame_put rfl ht ?_) | (refine frame_puts ht ?_ _ rfl) | exact frame_mix ht | (refine frame_mix2 rfl ht ?_) | exact rfl)) ?_
              exact ⟨(s, ((s + r) / 2)), ⟨(by show lo ≤ s ∧ s ≤ ((s + r) / 2) ∧ ((s + r) / 2) ≤ hi; omega), hq1, fun _ => hb10p⟩, by show ((s + r) / 2) - s < r - s; omega, (by repeat (first | exact kn_nil | refine kn_cons (by rfl) ?_)), (by repeat (first | exact List.Sublist.refl _ | exact List.nil_sublist _ | refine List.Sublist.cons_cons _ ?_ | refine List.Sublist.cons _ ?_ | exact Sbp.refl | exact Sbp.nil | refine Sbp.cons (by repeat (first | exact Rem.head | apply Rem.tail)) ?_ | exact Sbp.app | refine Sbp.skip ?_ | exact List.sublist_append_left _ _ | exact List.sublist_append_right _ _))⟩
          · have hb9p := of_decide_eq_false hb9
            refine CS.exit ?_
            refine thenC_x ?_
            refine loopQ_x ?_
            refine blockC_x ?_
            refine thenC_n ?_
            refine CS.seq ?_
            refine CS.region ?_
            have hsr : s = r := by omega
            have hs0 : a ≤ s ∧ s ≤ m := by omega
            have he0 : m ≤ ((a + b) / 2 + m - s) ∧ ((a + b) / 2 + m - s) ≤ b := by omega
            have hA : a < s → ((a + b) / 2 + m - s) < b → lt (d ((a + b) / 2 + m - s)) (d (s - 1)) = false := fun g1 g2 => by
              have h9 := hq1 (by omega)
              rw [show (a + b) / 2 + m - 1 - (s - 1) = (a + b) / 2 + m - s by omega] at h9
              exact h9
            have hB : s < m → m < ((a + b) / 2 + m - s) → lt (d s) (d (((a + b) / 2 + m - s) - 1)) = false := fun g1 g2 => by
              have h9 := hlt.asym _ _ (hq2 (by omega))
              rw [← hsr, show (a + b) / 2 + m - 1 - s = (a + b) / 2 + m - s - 1 by omega] at h9
              exact h9
            refine RS.q rfl (QO.move) ?_
            refine RS.q rfl (QO.move) ?_
            first | (refine RS.qv rfl (QO.sub (by rfl) (by rfl) (by omega) (by omega)) (congrArg iv (show (((a + b) / 2 + m : Nat) : Int) - (s : Int) = (((a + b) / 2 + m - s : Nat) : Int) by omega)) ?_) | (refine RS.qv rfl (QO.ibin (by rfl) (by rfl) trivial) (congrArg iv (show (((a + b) / 2 + m : Nat) : Int) - (s : Int) = (((a + b) / 2 + m - s : Nat) : Int) by omega)) ?_)
            refine RS.q rfl (QO.assign) ?_
            refine RS.nil ?_
            refine thenC_n ?_
            refine CS.cut (X := Unit) (178 :: 179 :: 180 :: 181 :: 182 :: 183 :: 184 :: 185 :: 186 :: 187 :: 188 :: 189 :: 190 :: 191 :: []) (fun z => []) (fun z => ⟨g, 91, fl (rotD d s m ((a + b) / 2 + m - s)) n junk⟩ :: HR) (fun z => True) ?_ ?_
            · refine CS.seq ?_
              refine CS.region ?_
              refine RS.q rfl (QO.move) ?_
              refine RS.q rfl (QO.move) ?_
              refine RS.q rfl (QO.lss (by rfl) (by rfl)) ?_
              refine RS.q rfl (QO.move) ?_
              refine RS.split (dj := 181) (by rfl) (fun hb11 => ?_) (fun hb11 => ?_)
              · have hb11p := of_decide_eq_true hb11
                refine RS.on (dj := 181) rfl (congrArg Value.bool hb11) ?_
                refine RS.q rfl (QO.move) ?_
                refine RS.on (dj := 181) rfl (congrArg Value.bool hb11) ?_
                refine RS.q rfl (QO.move) ?_
                refine RS.on (dj := 181) rfl (congrArg Value.bool hb11) ?_
                refine RS.q rfl (QO.lss (by rfl) (by rfl)) ?_
                refine RS.q rfl (QO.pickT (by rfl) hb11 (by rfl)) ?_
                refine RS.nil ?_
                refine thenC_n ?_
                refine CS.cond (by rfl) (fun hb12 => ?_) (fun hb12 => ?_)
                · have hb12p := of_decide_eq_true hb12
                  refine CS.region ?_
                  refine RS.q rfl (QO.move) ?_
                  refine RS.q rfl (QO.move) ?_
                  refine RS.q rfl (QO.move) ?_
                  refine RS.q rfl (QO.move) ?_
                  refine RS.q rfl (QO.move) ?_
                  refine RS.callH (⟨g, 91, fl d n junk⟩ :: HR) rfl (by rfl) ok223 (by rfl) (by repeat (first | exact List.Sublist.refl _ | exact List.nil_sublist _ | refine List.Sublist.cons_cons _ ?_ | refine List.Sublist.cons _ ?_ | exact Sbp.refl | exact Sbp.nil | refine Sbp.cons (by repeat (first | exact Rem.head | apply Rem.tail)) ?_ | exact Sbp.app | refine Sbp.skip ?_ | exact List.sublist_append_left _ _ | exact List.sublist_append_right _ _)) (fun w ho => rotate_ g n c junk HR _ fc hn s m ((a + b) / 2 + m - s) d (by omega) (by omega) (by omega)) ?_
                  rintro _ _ rfl
                  refine RS.nil ?_
                  refine cutQ_n (by intro t ht; repeat (first | with_reducible exact rfl | exact frame_puts ht (frame_mix ht) _ rfl | (refine frame_put rfl ht ?_) | (refine frame_puts ht ?_ _ rfl) | exact frame_mix ht | (refine frame_mix2 rfl ht ?_) | exact rfl)) ?_
                  exact ⟨(), trivial, (by repeat (first | exact kn_nil | refine kn_cons (by rfl) ?_)), (by repeat (first | exact List.Sublist.refl _ | exact List.nil_sublist _ | refine List.Sublist.cons_cons _ ?_ | refine List.Sublist.cons _ ?_ | exact Sbp.refl | exact Sbp.nil | refine Sbp.cons (by repeat (first | exact Rem.head | apply Rem.tail)) ?_ | exact Sbp.app | refine Sbp.skip ?_ | exact List.sublist_append_left _ _ | exact List.sublist_append_right _ _))⟩
                · have hb12p := of_decide_eq_false hb12
                  refine CS.skip ?_
                  refine cutQ_n (by intro t ht; repeat (first | with_reducible exact rfl | exact frame_puts ht (frame_mix ht) _ rfl | (refine frame_put rfl ht ?_) | (refine frame_puts ht ?_ _ rfl) | exact frame_mix ht | (refine frame_mix2 rfl ht ?_) | exact rfl)) ?_
                  exact ⟨(), trivial, (by repeat (first | exact kn_nil | refine kn_cons (by rfl) ?_)), (by rw [rot_triv d hs0.2 he0.1 (by omega)]; exact (by repeat (first | exact List.Sublist.refl _ | exact List.nil_sublist _ | refine List.Sublist.cons_cons _ ?_ | refine List.Sublist.cons _ ?_ | exact Sbp.refl | exact Sbp.nil | refine Sbp.cons (by repeat (first | exact Rem.head | apply Rem.tail)) ?_ | exact Sbp.app | refine Sbp.skip ?_ | exact List.sublist_append_left _ _ | exact List.sublist_append_right _ _)))⟩
              · have hb11p := of_decide_eq_false hb11
                refine RS.off (dj := 181) rfl (.inl (congrArg Value.bool hb11)) (fun _ => rfl) rfl ?_
                refine RS.off (dj := 181) rfl (.inl (congrArg Value.bool hb11)) (fun _ => rfl) rfl ?_
                refine RS.off (dj := 181) rfl (.inl (congrArg Value.bool hb11)) (fun _ => rfl) rfl ?_
                refine RS.q rfl (QO.pickF (by rfl) hb11 (by rfl)) ?_
                refine RS.nil ?_
                refine thenC_n ?_
                refine CS.condF (by rfl) rfl ?_
                refine CS.skip ?_
                refine cutQ_n (by intro t ht; repeat (first | with_reducible exact rfl | exact frame_puts ht (frame_mix ht) _ rfl | (refine frame_put rfl ht ?_) | (refine frame_puts ht ?_ _ rfl) | exact frame_mix ht | (refine frame_mix2 rfl ht ?_) | exact rfl)) ?_
                exact ⟨(), trivial, (by repeat (first | exact kn_nil | refine kn_cons (by rfl) ?_)), (by rw [rot_triv d hs0.2 he0.1 (by omega)]; exact (by repeat (first | exact List.Sublist.refl _ | exact List.nil_sublist _ | refine List.Sublist.cons_cons _ ?_ | refine List.Sublist.cons _ ?_ | exact Sbp.refl | exact Sbp.nil | refine Sbp.cons (by repeat (first | exact Rem.head | apply Rem.tail)) ?_ | exact Sbp.app | refine Sbp.skip ?_ | exact List.sublist_append_left _ _ | exact List.sublist_append_right _ _)))⟩
            · intro z gj hz
              have hro := rot_so hlt hS1 hS2 hs0 he0 (c := (a + b) / 2) (by omega) hA hB
              have hR32 := (rotM d hs0.1 hs0.2 he0.1 he0.2 h3).lt32 hP
              refine CS.cut (X := Nat → Pl) (192 :: 193 :: 194 :: 195 :: 196 :: 197 :: 198 :: 199 :: 200 :: 201 :: 202 :: 203 :: 204 :: 205 :: []) (fun d2 => []) (fun d2 => ⟨g, 91, fl d2 n junk⟩ :: HR) (fun d2 => Mv n a ((a + b) / 2) (rotD d s m ((a + b) / 2 + m - s)) d2 ∧ So lt a ((a + b) / 2) d2) ?_ ?_
              · refine CS.seq ?_
                refine CS.region ?_
                refine RS.q rfl (QO.move) ?_
                refine RS.q rfl (QO.move) ?_
                refine RS.q rfl (QO.lss (by rfl) (by rfl)) ?_
                refine RS.q rfl (QO.move) ?_
                refine RS.split (dj := 195) (by rfl) (fun hb13 => ?_) (fun hb13 => ?_)
                · have hb13p := of_decide_eq_true hb13
                  refine RS.on (dj := 195) rfl (congrArg Value.bool hb13) ?_
                  refine RS.q rfl (QO.move) ?_
                  refine RS.on (dj := 195) rfl (congrArg Value.bool hb13) ?_
                  refine RS.q rfl (QO.move) ?_
                  refine RS.on (dj := 195) rfl (congrArg Value.bool hb13) ?_
                  refine RS.q rfl (QO.lss (by rfl) (by rfl)) ?_
                  refine RS.q rfl (QO.pickT (by rfl) hb13 (by rfl)) ?_
                  refine RS.nil ?_
                  refine thenC_n ?_
                  refine CS.cond (by rfl) (fun hb14 => ?_) (fun hb14 => ?_)
                  · have hb14p := of_decide_eq_true hb14
                    refine CS.region ?_
                    refine RS.q rfl (QO.move) ?_
                    refine RS.q rfl (QO.move) ?_
                    refine RS.q rfl (QO.move) ?_
                    refine RS.q rfl (QO.move) ?_
                    refine RS.q rfl (QO.move) ?_
                    refine RS.callH (⟨g, 91, fl (rotD d s m ((a + b) / 2 + m - s)) n junk⟩ :: HR) rfl (by rfl) ok188 (by rfl) (by repeat (first | exact List.Sublist.refl _ | exact List.nil_sublist _ | refine List.Sublist.cons_cons _ ?_ | refine List.Sublist.cons _ ?_ | exact Sbp.refl | exact Sbp.nil | refine Sbp.cons (by repeat (first | exact Rem.head | apply Rem.tail)) ?_ | exact Sbp.app | refine Sbp.skip ?_ | exact List.sublist_append_left _ _ | exact List.sublist_append_right _ _)) (fun w ho => ih a s ((a + b) / 2) (rotD d s m ((a + b) / 2 + m - s)) (by omega) (by omega) (by omega) (by omega) hR32 hro.1 hro.2.1) ?_
                    rintro _ _ ⟨d2, rfl, m2, s2⟩
                    refine RS.nil ?_
                    refine cutQ_n (by intro t ht; repeat (first | with_reducible exact rfl | exact frame_puts ht (frame_mix ht) _ rfl | (refine frame_put rfl ht ?_) | (refine frame_puts ht ?_ _ rfl) | exact frame_mix ht | (refine frame_mix2 rfl ht ?_) | exact rfl)) ?_
                    exact ⟨d2, ⟨m2, s2⟩, (by repeat (first | exact kn_nil | refine kn_cons (by rfl) ?_)), (by repeat (first | exact List.Sublist.refl _ | exact List.nil_sublist _ | refine List.Sublist.cons_cons _ ?_ | refine List.Sublist.cons _ ?_ | exact Sbp.refl | exact Sbp.nil | refine Sbp.cons (by repeat (first | exact Rem.head | apply Rem.tail)) ?_ | exact Sbp.app | refine Sbp.skip ?_ | exact List.sublist_append_left _ _ | exact List.sublist_append_right _ _))⟩
                  · have hb14p := of_decide_eq_false hb14
                    refine CS.skip ?_
                    refine cutQ_n (by intro t ht; repeat (first | with_reducible exact rfl | exact frame_puts ht (frame_mix ht) _ rfl | (refine frame_put rfl ht ?_) | (refine frame_puts ht ?_ _ rfl) | exact frame_mix ht | (refine frame_mix2 rfl ht ?_) | exact rfl)) ?_
                    exact ⟨(rotD d s m ((a + b) / 2 + m - s)), ⟨Mv.refl _ _ _ _, hro.1.mono (Nat.le_refl _) (by omega)⟩, (by repeat (first | exact kn_nil | refine kn_cons (by rfl) ?_)), (by repeat (first | exact List.Sublist.refl _ | exact List.nil_sublist _ | refine List.Sublist.cons_cons _ ?_ | refine List.Sublist.cons _ ?_ | exact Sbp.refl | exact Sbp.nil | refine Sbp.cons (by repeat (first | exact Rem.head | apply Rem.tail)) ?_ | exact Sbp.app | refine Sbp.skip ?_ | exact List.sublist_append_left _ _ | exact List.sublist_append_right _ _))⟩
                · have hb13p := of_decide_eq_false hb13
                  refine RS.off (dj := 195) rfl (.inl (congrArg Value.bool hb13)) (fun _ => rfl) rfl ?_
                  refine RS.off (dj := 195) rfl (.inl (congrArg Value.bool hb13)) (fun _ => rfl) rfl ?_
                  refine RS.off (dj := 195) rfl (.inl (congrArg Value.bool hb13)) (fun _ => rfl) rfl ?_
                  refine RS.q rfl (QO.pickF (by rfl) hb13 (by rfl)) ?_
                  refine RS.nil ?_
                  refine thenC_n ?_
                  refine CS.condF (by rfl) rfl ?_
                  refine CS.skip ?_
                  refine cutQ_n (by intro t ht; repeat (first | with_reducible exact rfl | exact frame_puts ht (frame_mix ht) _ rfl | (refine frame_put rfl ht ?_) | (refine frame_puts ht ?_ _ rfl) | exact frame_mix ht | (refine frame_mix2 rfl ht ?_) | exact rfl)) ?_
                  exact ⟨(rotD d s m ((a + b) / 2 + m - s)), ⟨Mv.refl _ _ _ _, hro.2.1.mono (by omega) (Nat.le_refl _)⟩, (by repeat (first | exact kn_nil | refine kn_cons (by rfl) ?_)), (by repeat (first | exact List.Sublist.refl _ | exact List.nil_sublist _ | refine List.Sublist.cons_cons _ ?_ | refine List.Sublist.cons _ ?_ | exact Sbp.refl | exact Sbp.nil | refine Sbp.cons (by repeat (first | exact Rem.head | apply Rem.tail)) ?_ | exact Sbp.app | refine Sbp.skip ?_ | exact List.sublist_append_left _ _ | exact List.sublist_append_right _ _))⟩
              · intro d2 gj hz
                obtain ⟨m2, s2⟩ := hz
                refine CS.seq ?_
                refine CS.region ?_
                refine RS.q rfl (QO.move) ?_
                refine RS.q rfl (QO.move) ?_
                refine RS.q rfl (QO.lss (by rfl) (by rfl)) ?_
                refine RS.q rfl (QO.move) ?_
                refine RS.split (dj := 209) (by rfl) (fun hb15 => ?_) (fun hb15 => ?_)
                · have hb15p := of_decide_eq_true hb15
                  refine RS.on (dj := 209) rfl (congrArg Value.bool hb15) ?_
                  refine RS.q rfl (QO.move) ?_
                  refine RS.on (dj := 209) rfl (congrArg Value.bool hb15) ?_
                  refine RS.q rfl (QO.move) ?_
                  refine RS.on (dj := 209) rfl (congrArg Value.bool hb15) ?_
                  refine RS.q rfl (QO.lss (by rfl) (by rfl)) ?_
                  refine RS.q rfl (QO.pickT (by rfl) hb15 (by rfl)) ?_
                  refine RS.nil ?_
                  refine thenC_n ?_
                  refine CS.cond (by rfl) (fun hb16 => ?_) (fun hb16 => ?_)
                  · have hb16p := of_decide_eq_true hb16
                    refine CS.region ?_
                    refine RS.q rfl (QO.move) ?_
                    refine RS.q rfl (QO.move) ?_
                    refine RS.q rfl (QO.move) ?_
                    refine RS.q rfl (QO.move) ?_
                    refine RS.q rfl (QO.move) ?_
                    refine RS.callH (⟨g, 91, fl d2 n junk⟩ :: HR) rfl (by rfl) ok188 (by rfl) (by repeat (first | exact List.Sublist.refl _ | exact List.nil_sublist _ | refine List.Sublist.cons_cons _ ?_ | refine List.Sublist.cons _ ?_ | exact Sbp.refl | exact Sbp.nil | refine Sbp.cons (by repeat (first | exact Rem.head | apply Rem.tail)) ?_ | exact Sbp.app | refine Sbp.skip ?_ | exact List.sublist_append_left _ _ | exact List.sublist_append_right _ _)) (fun w ho => ih ((a + b) / 2) ((a + b) / 2 + m - s) b d2 (by omega) (by omega) (by omega) h3 (m2.lt32 hR32) (hro.2.2.1.same fun i hi _ => m2.1 i (.inr hi)) (hro.2.2.2.1.same fun i hi _ => m2.1 i (.inr (by omega)))) ?_
                    rintro _ _ ⟨d3, rfl, m3, s3⟩
                    refine RS.nil ?_
                    refine retQ.mk (H' := ⟨g, 91, fl d3 n junk⟩ :: HR) (.inl rfl) RVs.nil (by repeat (first | exact List.Sublist.refl _ | exact List.nil_sublist _ | refine List.Sublist.cons_cons _ ?_ | refine List.Sublist.cons _ ?_ | exact Sbp.refl | exact Sbp.nil | refine Sbp.cons (by repeat (first | exact Rem.head | apply Rem.tail)) ?_ | exact Sbp.app | refine Sbp.skip ?_ | exact List.sublist_append_left _ _ | exact List.sublist_append_right _ _)) ?_
                    exact ⟨d3, rfl, (rotM d hs0.1 hs0.2 he0.1 he0.2 h3).trans ((m2.mono (Nat.le_refl _) (by omega)).trans (m3.mono (by omega) (Nat.le_refl _))), mergeC hlt hS1 hS2 hs0 he0 (c := (a + b) / 2) (by omega) hA hB m2 s2 m3 s3⟩
                  · have hb16p := of_decide_eq_false hb16
                    refine CS.skip ?_
                    refine retQ.mk (H' := ⟨g, 91, fl d2 n junk⟩ :: HR) (.inl rfl) RVs.nil (by repeat (first | exact List.Sublist.refl _ | exact List.nil_sublist _ | refine List.Sublist.cons_cons _ ?_ | refine List.Sublist.cons _ ?_ | exact Sbp.refl | exact Sbp.nil | refine Sbp.cons (by repeat (first | exact Rem.head | apply Rem.tail)) ?_ | exact Sbp.app | refine Sbp.skip ?_ | exact List.sublist_append_left _ _ | exact List.sublist_append_right _ _)) ?_
                    have m3 := Mv.refl n ((a + b) / 2) b d2
                    have s3 : So lt ((a + b) / 2) b d2 := (hro.2.2.1.same fun i hi _ => m2.1 i (.inr hi)).mono (Nat.le_refl _) (by omega)
                    exact ⟨d2, rfl, (rotM d hs0.1 hs0.2 he0.1 he0.2 h3).trans ((m2.mono (Nat.le_refl _) (by omega)).trans (m3.mono (by omega) (Nat.le_refl _))), mergeC hlt hS1 hS2 hs0 he0 (c := (a + b) / 2) (by omega) hA hB m2 s2 m3 s3⟩
                · have hb15p := of_decide_eq_false hb15
                  refine RS.off (dj := 209) rfl (.inl (congrArg Value.bool hb15)) (fun _ => rfl) rfl ?_
                  refine RS.off (dj := 209) rfl (.inl (congrArg Value.bool hb15)) (fun _ => rfl) rfl ?_
                  refine RS.off (dj := 209) rfl (.inl (congrArg Value.bool hb15)) (fun _ => rfl) rfl ?_
                  refine RS.q rfl (QO.pickF (by rfl) hb15 (by rfl)) ?_
                  refine RS.nil ?_
                  refine thenC_n ?_
                  refine CS.condF (by rfl) rfl ?_
                  refine CS.skip ?_
                  refine retQ.mk (H' := ⟨g, 91, fl d2 n junk⟩ :: HR) (.inl rfl) RVs.nil (by repeat (first | exact List.Sublist.refl _ | exact List.nil_sublist _ | refine List.Sublist.cons_cons _ ?_ | refine List.Sublist.cons _ ?_ | exact Sbp.refl | exact Sbp.nil | refine Sbp.cons (by repeat (first | exact Rem.head | apply Rem.tail)) ?_ | exact Sbp.app | refine Sbp.skip ?_ | exact List.sublist_append_left _ _ | exact List.sublist_append_right _ _)) ?_
                  have m3 := Mv.refl n ((a + b) / 2) b d2
                  have s3 : So lt ((a + b) / 2) b d2 := So.same ((hro.2.2.2.1).mono (show ((a + b) / 2 + m - s) ≤ (a + b) / 2 by omega) (Nat.le_refl _)) fun i hi _ => m2.1 i (.inr hi)
                  exact ⟨d2, rfl, (rotM d hs0.1 hs0.2 he0.1 he0.2 h3).trans ((m2.mono (Nat.le_refl _) (by omega)).trans (m3.mono (by omega) (Nat.le_refl _))), mergeC hlt hS1 hS2 hs0 he0 (c := (a + b) / 2) (by omega) hA hB m2 s2 m3 s3⟩

theorem symMerge_ (g n c : Nat) (junk : List Value) (HR : HL) (W : World) (fc : FuncId) (hn : n ≤ 1000000) (lt : Pl → Pl → Bool) (hlt : Ord lt) (hok : callOK Tryd.prog fc = true) (hf : ∀ wd Hd, Own W wd Hd → ∀ x y : Pl, PlP x → PlP y → Fn_ Tryd.prog fc #[.agg (plc x).toArray, .agg (plc y).toArray] wd (fun v H => ∃ r : Int, v = iv r ∧ decide (r < 0) = lt x y ∧ H = [])) : ∀ (k : Nat) (a m b : Nat) (d : Nat → Pl), b - a = k → a < m → m < b → b ≤ n → (∀ i, PlP (d i)) → So lt a m d → So lt m b d → FnH Tryd.prog 188 #[.slice (some ⟨g, 0, none⟩) n c, iv (a : Int), iv (m : Int), iv (b : Int), .func (.func fc) #[] #[]] W (⟨g, 91, fl d n junk⟩ :: HR) (fun v H => ∃ d2, H = ⟨g, 91, fl d2 n junk⟩ :: HR ∧ Mv n a b d d2 ∧ So lt a b d2) := by
  intro k
  induction k using Nat.strongRecOn with
  | _ k ih =>
    intro a m b d hk h1 h2 h3 hP hS1 hS2
    exact symStep g n c junk HR W fc hn lt hlt hok hf k (fun a m b d hlk h1 h2 h3 hP hS1 hS2 => ih _ hlk a m b d rfl h1 h2 h3 hP hS1 hS2) a m b d hk h1 h2 h3 hP hS1 hS2

end Go.Proofs.YtapcgokcfmklbaaDoor

namespace Go.Proofs.YtapcgokcfmklbaaDoor
open Go Go.Proofs Go.RowKit

theorem ok143 : callOK Tryd.prog 143 = true := by kernel_rfl
theorem ok187 : callOK Tryd.prog 187 = true := by kernel_rfl

theorem blk1 {bs q A : Nat} (hA : A = q * (2 * bs)) : (2 * q) * bs = A ∧ (2 * q + 1) * bs = A + bs ∧ (2 * q + 1 + 1) * bs = A + 2 * bs ∧ (q + 1) * (2 * bs) = A + 2 * bs := by
  have h1 : (2 * q) * bs = A := by rw [hA, Nat.mul_comm 2 q, Nat.mul_assoc]
  refine ⟨h1, ?_, ?_, ?_⟩
  · rw [Nat.add_mul, h1, Nat.one_mul]
  · rw [Nat.add_mul, Nat.add_mul, h1, Nat.one_mul]; omega
  · rw [Nat.add_mul, ← hA, Nat.one_mul]
/-- the blocks from 2 * q on are still to be merged -/
def Un (lt : Pl → Pl → Bool) (bs n q : Nat) (d : Nat → Pl) : Prop := ∀ p, 2 * q ≤ p → So lt (p * bs) (min ((p + 1) * bs) n) d
theorem Un.one {lt : Pl → Pl → Bool} {bs n q A : Nat} {d : Nat → Pl} (h : Un lt bs n q d) (hA : A = q * (2 * bs)) (hn : A + bs ≤ n) : So lt A (A + bs) d := by
  have h1 := h (2 * q) (Nat.le_refl _)
  rw [(blk1 hA).1, (blk1 hA).2.1, Nat.min_eq_left hn] at h1
  exact h1
theorem Un.two {lt : Pl → Pl → Bool} {bs n q A : Nat} {d : Nat → Pl} (h : Un lt bs n q d) (hA : A = q * (2 * bs)) (hn : A + 2 * bs ≤ n) : So lt (A + bs) (A + 2 * bs) d := by
  have h1 := h (2 * q + 1) (by omega)
  rw [(blk1 hA).2.1, (blk1 hA).2.2.1, Nat.min_eq_left hn] at h1
  exact h1
theorem Un.rest {lt : Pl → Pl → Bool} {bs n q A : Nat} {d : Nat → Pl} (h : Un lt bs n q d) (hA : A = q * (2 * bs)) (hn : n ≤ A + 2 * bs) : So lt (A + bs) n d := by
  have h1 := h (2 * q + 1) (by omega)
  rw [(blk1 hA).2.1, (blk1 hA).2.2.1, Nat.min_eq_right hn] at h1
  exact h1
theorem Un.all {lt : Pl → Pl → Bool} {bs n q A : Nat} {d : Nat → Pl} (h : Un lt bs n q d) (hA : A = q * (2 * bs)) (hn : n ≤ A + bs) : So lt A n d := by
  have h1 := h (2 * q) (Nat.le_refl _)
  rw [(blk1 hA).1, (blk1 hA).2.1, Nat.min_eq_right hn] at h1
  exact h1
theorem Un.next {lt : Pl → Pl → Bool} {bs n q A : Nat} {d d' : Nat → Pl} (h : Un lt bs n q d) (hA : A = q * (2 * bs)) (m : Mv n A (A + 2 * bs) d d') : Un lt bs n (q + 1) d' := fun p hp => by
  have h1 : (2 * q + 1 + 1) * bs ≤ p * bs := Nat.mul_le_mul_right _ (by omega)
  rw [(blk1 hA).2.2.1] at h1
  exact (h p (by omega)).same fun i hi _ => m.1 i (.inr (by omega))
theorem Bq.next {lt : Pl → Pl → Bool} {bs n q A : Nat} {d d' : Nat → Pl} (h : Bq lt (2 * bs) q d) (hA : A = q * (2 * bs)) (m : Mv n A (A + 2 * bs) d d') (s : So lt A (A + 2 * bs) d') : Bq lt (2 * bs) (q + 1) d' := by
  rw [hA] at m s
  refine Bq.succ h m ?_
  rw [(blk1 hA).2.2.2, hA]
  exact s
theorem Bq.fin {lt : Pl → Pl → Bool} {bs n q A : Nat} {d d' : Nat → Pl} (h : Bq lt (2 * bs) q d) (hA : A = q * (2 * bs)) (hn : n ≤ A + 2 * bs) (m : Mv n A n d d') (s : So lt A n d') : Bs lt (2 * bs) n d' := by
  have h1 := (blk1 hA).2.2.2
  rw [hA] at m s
  exact Bq.last h m s (by rw [h1]; exact hn)
theorem Bq.fst {lt : Pl → Pl → Bool} {q : Nat} {n : Nat} {d d' : Nat → Pl} (h : Bq lt 20 q d) (m : Mv n (q * 20) (q * 20 + 20) d d') (s : So lt (q * 20) (q * 20 + 20) d') : Bq lt 20 (q + 1) d' := by
  refine Bq.succ h m ?_
  rw [Nat.add_mul, Nat.one_mul]; exact s
theorem Bs.un {lt : Pl → Pl → Bool} {bs n : Nat} {d : Nat → Pl} (h : Bs lt bs n d) : Un lt bs n 0 d := fun p _ => h p

set_option maxHeartbeats 4000000 in
set_option maxRecDepth 100000 in
theorem stable_ (g n c : Nat) (junk : List Value) (HR : HL) (W : World) (fc : FuncId) (hn : n ≤ 1000000) (lt : Pl → Pl → Bool) (hlt : Ord lt) (hok : callOK Tryd.prog fc = true) (hf : ∀ wd Hd, Own W wd Hd → ∀ x y : Pl, PlP x → PlP y → Fn_ Tryd.prog fc #[.agg (plc x).toArray, .agg (plc y).toArray] wd (fun v H => ∃ r : Int, v = iv r ∧ decide (r < 0) = lt x y ∧ H = [])) (d : Nat → Pl) (hP : ∀ i, PlP (d i)) : FnH Tryd.prog 143 #[.slice (some ⟨g, 0, none⟩) n c, iv (n : Int), .func (.func fc) #[] #[]] W (⟨g, 91, fl d n junk⟩ :: HR) (fun v H => ∃ d2, H = ⟨g, 91, fl d2 n junk⟩ :: HR ∧ Mv n 0 n d d2 ∧ So lt 0 n d2) := by
  refine FnH.intro Tryd.func143 rfl rfl (by rfl) ?_
  refine CS.seq ?_
  refine CS.region ?_
  refine RS.q rfl (QO.assign) ?_
  refine RS.nil ?_
  refine thenC_n ?_
  refine CS.seq ?_
  refine CS.region ?_
  refine RS.q rfl (QO.move) ?_
  refine RS.q rfl (QO.assign) ?_
  refine RS.q rfl (QO.assign) ?_
  refine RS.nil ?_
  refine thenC_n ?_
  refine CS.seq ?_
  refine CS.block ?_
  refine CS.loop (X := (Nat → Pl) × Nat) (7 :: 8 :: 11 :: 12 :: 13 :: 14 :: 15 :: 16 :: 17 :: 18 :: 19 :: 20 :: 21 :: 22 :: []) (fun z => [(7, iv ((z.2 * 20 : Nat) : Int)), (8, iv ((z.2 * 20 + 20 : Nat) : Int))]) (fun z => ⟨g, 91, fl z.1 n junk⟩ :: HR) (fun z => z.2 * 20 ≤ n ∧ Mv n 0 n d z.1 ∧ Bq lt 20 z.2 z.1) (fun z => n - z.2 * 20) (d, 0) ⟨(by show 0 * 20 ≤ n; omega), Mv.refl _ _ _ _, Bq.zero _ _ _⟩ ?_ ?_ ?_
  · exact kn_cons rfl (kn_cons rfl kn_nil)
  · exact (by repeat (first | exact List.Sublist.refl _ | exact List.nil_sublist _ | refine List.Sublist.cons_cons _ ?_ | refine List.Sublist.cons _ ?_ | exact Sbp.refl | exact Sbp.nil | refine Sbp.cons (by repeat (first | exact Rem.head | apply Rem.tail)) ?_ | exact Sbp.app | refine Sbp.skip ?_ | exact List.sublist_append_left _ _ | exact List.sublist_append_right _ _))
  · intro z gj2 hz
    obtain ⟨D, q⟩ := z
    obtain ⟨hq, hM, hB⟩ := hz
    replace hq : q * 20 ≤ n := hq
    replace hM : Mv n 0 n d D := hM
    replace hB : Bq lt 20 q D := hB
    have hD := hM.lt32 hP
    show CS _ _ _ _ _ (puts (mix _ _ _) [(7, iv ((q * 20 : Nat) : Int)), (8, iv ((q * 20 + 20 : Nat) : Int))]) (⟨g, 91, fl D n junk⟩ :: HR)
    refine CS.seq ?_
    refine CS.seq ?_
    refine CS.region ?_
    refine RS.q rfl (QO.move) ?_
    refine RS.q rfl (QO.move) ?_
    refine RS.q rfl (QO.leq (by rfl) (by rfl)) ?_
    refine RS.nil ?_
    refine thenC_n ?_
    refine CS.cond (by rfl) (fun hb0 => ?_) (fun hb0 => ?_)
    · have hb0p := of_decide_eq_true hb0
      refine CS.skip ?_
      refine thenC_n ?_
      refine CS.block ?_
      refine CS.seq ?_
      refine CS.region ?_
      refine RS.q rfl (QO.move) ?_
      refine RS.q rfl (QO.move) ?_
      refine RS.q rfl (QO.move) ?_
      refine RS.q rfl (QO.move) ?_
      refine RS.callH (⟨g, 91, fl D n junk⟩ :: HR) rfl (by rfl) ok187 (by rfl) (by repeat (first | exact List.Sublist.refl _ | exact List.nil_sublist _ | refine List.Sublist.cons_cons _ ?_ | refine List.Sublist.cons _ ?_ | exact Sbp.refl | exact Sbp.nil | refine Sbp.cons (by repeat (first | exact Rem.head | apply Rem.tail)) ?_ | exact Sbp.app | refine Sbp.skip ?_ | exact List.sublist_append_left _ _ | exact List.sublist_append_right _ _)) (fun w ho => insertion_ g n c junk HR _ fc hn lt hlt hok hf (q * 20) (q * 20 + 20) D hD (by omega) (by omega)) ?_
      rintro _ _ ⟨d2, rfl, m2, s2⟩
      refine RS.nil ?_
      refine thenC_n ?_
      refine CS.seq ?_
      refine CS.region ?_
      refine RS.q rfl (QO.move) ?_
      refine RS.q rfl (QO.assign) ?_
      refine RS.nil ?_
      refine thenC_n ?_
      refine CS.region ?_
      refine RS.q rfl (QO.move) ?_
      refine RS.q rfl (QO.move) ?_
      first | (refine RS.q rfl (QO.add (by rfl) (by rfl) (by omega) (by omega)) ?_) | (refine RS.q rfl (QO.ibin (by rfl) (by rfl) trivial) ?_)
      refine RS.q rfl (QO.assign) ?_
      refine RS.nil ?_
      refine blockC_n ?_
      refine loopQ_n (by intro t ht; repeat (first | with_reducible exact rfl | exact frame_puts ht (frame_mix ht) _ rfl | (refine frame_put rfl ht ?_) | (refine frame_puts ht ?_ _ rfl) | exact frame_mix ht | (refine frame_mix2 rfl ht ?_) | exact rfl)) ?_
      exact ⟨(d2, q + 1), ⟨(by show (q + 1) * 20 ≤ n; omega), hM.trans (m2.mono (Nat.zero_le _) (by omega)), hB.fst m2 s2⟩, by show n - (q + 1) * 20 < n - q * 20; omega, kn_cons (congrArg iv (by show ((q * 20 + 20 : Nat) : Int) = (((q + 1) * 20 : Nat) : Int); omega)) (kn_cons (congrArg iv (by show ((q * 20 + 20 : Nat) : Int) + 20 = (((q + 1) * 20 + 20 : Nat) : Int); omega)) kn_nil), (by repeat (first | exact List.Sublist.refl _ | exact List.nil_sublist _ | refine List.Sublist.cons_cons _ ?_ | refine List.Sublist.cons _ ?_ | exact Sbp.refl | exact Sbp.nil | refine Sbp.cons (by repeat (first | exact Rem.head | apply Rem.tail)) ?_ | exact Sbp.app | refine Sbp.skip ?_ | exact List.sublist_append_left _ _ | exact List.sublist_append_right _ _))⟩
    · have hb0p := of_decide_eq_false hb0
      refine CS.exit ?_
      refine thenC_x ?_
      refine loopQ_x ?_
      refine blockC_x ?_
      refine thenC_n ?_
      refine CS.seq ?_
      refine CS.region ?_
      refine RS.q rfl (QO.move) ?_
      refine RS.q rfl (QO.move) ?_
      refine RS.q rfl (QO.move) ?_
      refine RS.q rfl (QO.move) ?_
      refine RS.callH (⟨g, 91, fl D n junk⟩ :: HR) rfl (by rfl) ok187 (by rfl) (by repeat (first | exact List.Sublist.refl _ | exact List.nil_sublist _ | refine List.Sublist.cons_cons _ ?_ | refine List.Sublist.cons _ ?_ | exact Sbp.refl | exact Sbp.nil | refine Sbp.cons (by repeat (first | exact Rem.head | apply Rem.tail)) ?_ | exact Sbp.app | refine Sbp.skip ?_ | exact List.sublist_append_left _ _ | exact List.sublist_append_right _ _)) (fun w ho => insertion_ g n c junk HR _ fc hn lt hlt hok hf (q * 20) n D hD (by omega) (by omega)) ?_
      rintro _ _ ⟨d2, rfl, m2, s2⟩
      have hM2 : Mv n 0 n d d2 := hM.trans (m2.mono (Nat.zero_le _) (Nat.le_refl _))
      have hB2 : Bs lt 20 n d2 := Bq.last hB m2 s2 (by omega)
      refine RS.nil ?_
      refine thenC_n ?_
      refine CS.block ?_
      refine CS.loop (X := (Nat → Pl) × Nat) (6 :: 7 :: 8 :: 9 :: 28 :: 29 :: 30 :: 31 :: 32 :: 33 :: 34 :: 35 :: 36 :: 37 :: 38 :: 39 :: 40 :: 41 :: 42 :: 43 :: 44 :: 45 :: 46 :: 47 :: 48 :: 49 :: 50 :: 51 :: 52 :: 53 :: 54 :: 55 :: 56 :: 57 :: 58 :: 59 :: 60 :: 61 :: 62 :: []) (fun z => [(6, iv (z.2 : Int))]) (fun z => ⟨g, 91, fl z.1 n junk⟩ :: HR) (fun z => (20 ≤ z.2 ∧ z.2 ≤ 2000000) ∧ Mv n 0 n d z.1 ∧ Bs lt z.2 n z.1) (fun z => 2 * n - z.2) (d2, 20) ⟨(by show 20 ≤ 20 ∧ 20 ≤ 2000000; omega), hM2, hB2⟩ ?_ ?_ ?_
      · exact kn_cons rfl kn_nil
      · exact (by repeat (first | exact List.Sublist.refl _ | exact List.nil_sublist _ | refine List.Sublist.cons_cons _ ?_ | refine List.Sublist.cons _ ?_ | exact Sbp.refl | exact Sbp.nil | refine Sbp.cons (by repeat (first | exact Rem.head | apply Rem.tail)) ?_ | exact Sbp.app | refine Sbp.skip ?_ | exact List.sublist_append_left _ _ | exact List.sublist_append_right _ _))
      · intro z gj7 hz
        obtain ⟨D3, bs⟩ := z
        obtain ⟨hbs, hM3, hB3⟩ := hz
        replace hbs : 20 ≤ bs ∧ bs ≤ 2000000 := hbs
        replace hM3 : Mv n 0 n d D3 := hM3
        replace hB3 : Bs lt bs n D3 := hB3
        show CS _ _ _ _ _ (puts (mix _ _ _) [(6, iv (bs : Int))]) (⟨g, 91, fl D3 n junk⟩ :: HR)
        refine CS.seq ?_
        refine CS.seq ?_
        refine CS.region ?_
        refine RS.q rfl (QO.move) ?_
        refine RS.q rfl (QO.move) ?_
        refine RS.q rfl (QO.lss (by rfl) (by rfl)) ?_
        refine RS.nil ?_
        refine thenC_n ?_
        refine CS.cond (by rfl) (fun hb1 => ?_) (fun hb1 => ?_)
        · have hb1p := of_decide_eq_true hb1
          refine CS.skip ?_
          refine thenC_n ?_
          refine CS.block ?_
          refine CS.seq ?_
          refine CS.region ?_
          refine RS.q rfl (QO.move) ?_
          first | (refine RS.qv rfl (QO.mul (by rfl) (by rfl) (by omega) (by omega)) (congrArg iv (show (2 : Int) * (bs : Int) = ((2 * bs : Nat) : Int) by omega)) ?_) | (refine RS.qv rfl (QO.ibin (by rfl) (by rfl) trivial) (congrArg iv (show (2 : Int) * (bs : Int) = ((2 * bs : Nat) : Int) by omega)) ?_)
          refine RS.q rfl (QO.assign) ?_
          refine RS.q rfl (QO.assign) ?_
          refine RS.nil ?_
          refine thenC_n ?_
          refine CS.seq ?_
          refine CS.block ?_
          refine CS.loop (X := (Nat → Pl) × Nat × Nat) (7 :: 8 :: 33 :: 34 :: 35 :: 36 :: 37 :: 38 :: 39 :: 40 :: 41 :: 42 :: 43 :: 44 :: 45 :: 46 :: 47 :: 48 :: []) (fun y => [(7, iv (y.2.2 : Int)), (8, iv ((y.2.2 + 2 * bs : Nat) : Int))]) (fun y => ⟨g, 91, fl y.1 n junk⟩ :: HR) (fun y => y.2.2 = y.2.1 * (2 * bs) ∧ y.2.2 ≤ n ∧ Mv n 0 n d y.1 ∧ Bq lt (2 * bs) y.2.1 y.1 ∧ Un lt bs n y.2.1 y.1) (fun y => n - y.2.2) (D3, 0, 0) ⟨(by show 0 = 0 * (2 * bs); omega), Nat.zero_le _, hM3, Bq.zero _ _ _, hB3.un⟩ ?_ ?_ ?_
          · exact kn_cons rfl (kn_cons (congrArg iv (show ((2 * bs : Nat) : Int) = ((0 + 2 * bs : Nat) : Int) by omega)) kn_nil)
          · exact (by repeat (first | exact List.Sublist.refl _ | exact List.nil_sublist _ | refine List.Sublist.cons_cons _ ?_ | refine List.Sublist.cons _ ?_ | exact Sbp.refl | exact Sbp.nil | refine Sbp.cons (by repeat (first | exact Rem.head | apply Rem.tail)) ?_ | exact Sbp.app | refine Sbp.skip ?_ | exact List.sublist_append_left _ _ | exact List.sublist_append_right _ _))
          · intro y gj9 hz
            obtain ⟨E, q, A⟩ := y
            obtain ⟨hA, hAn, hM4, hB4, hU⟩ := hz
            replace hA : A = q * (2 * bs) := hA
            replace hAn : A ≤ n := hAn
            replace hM4 : Mv n 0 n d E := hM4
            replace hB4 : Bq lt (2 * bs) q E := hB4
            replace hU : Un lt bs n q E := hU
            have hE := hM4.lt32 hP
            show CS _ _ _ _ _ (puts (mix _ _ _) [(7, iv (A : Int)), (8, iv ((A + 2 * bs : Nat) : Int))]) (⟨g, 91, fl E n junk⟩ :: HR)
            refine CS.seq ?_
            refine CS.seq ?_
            refine CS.region ?_
            refine RS.q rfl (QO.move) ?_
            refine RS.q rfl (QO.move) ?_
            refine RS.q rfl (QO.leq (by rfl) (by rfl)) ?_
            refine RS.nil ?_
            refine thenC_n ?_
            refine CS.cond (by rfl) (fun hb2 => ?_) (fun hb2 => ?_)
            · have hb2p := of_decide_eq_true hb2
              refine CS.skip ?_
              refine thenC_n ?_
              refine CS.block ?_
              refine CS.seq ?_
              refine CS.region ?_
              refine RS.q rfl (QO.move) ?_
              refine RS.q rfl (QO.move) ?_
              refine RS.q rfl (QO.move) ?_
              refine RS.q rfl (QO.move) ?_
              first | (refine RS.qv rfl (QO.add (by rfl) (by rfl) (by omega) (by omega)) (congrArg iv (show (A : Int) + (bs : Int) = ((A + bs : Nat) : Int) by omega)) ?_) | (refine RS.qv rfl (QO.ibin (by rfl) (by rfl) trivial) (congrArg iv (show (A : Int) + (bs : Int) = ((A + bs : Nat) : Int) by omega)) ?_)
              refine RS.q rfl (QO.move) ?_
              refine RS.q rfl (QO.move) ?_
              refine RS.callH (⟨g, 91, fl E n junk⟩ :: HR) rfl (by rfl) ok188 (by rfl) (by repeat (first | exact List.Sublist.refl _ | exact List.nil_sublist _ | refine List.Sublist.cons_cons _ ?_ | refine List.Sublist.cons _ ?_ | exact Sbp.refl | exact Sbp.nil | refine Sbp.cons (by repeat (first | exact Rem.head | apply Rem.tail)) ?_ | exact Sbp.app | refine Sbp.skip ?_ | exact List.sublist_append_left _ _ | exact List.sublist_append_right _ _)) (fun w ho => symMerge_ g n c junk HR _ fc hn lt hlt hok hf ((A + 2 * bs) - A) A (A + bs) (A + 2 * bs) E rfl (by omega) (by omega) (by omega) hE (hU.one hA (by omega)) (hU.two hA (by omega))) ?_
              rintro _ _ ⟨d2, rfl, m2, s2⟩
              refine RS.nil ?_
              refine thenC_n ?_
              refine CS.seq ?_
              refine CS.region ?_
              refine RS.q rfl (QO.move) ?_
              refine RS.q rfl (QO.assign) ?_
              refine RS.nil ?_
              refine thenC_n ?_
              refine CS.region ?_
              refine RS.q rfl (QO.move) ?_
              refine RS.q rfl (QO.move) ?_
              first | (refine RS.qv rfl (QO.mul (by rfl) (by rfl) (by omega) (by omega)) (congrArg iv (show (2 : Int) * (bs : Int) = ((2 * bs : Nat) : Int) by omega)) ?_) | (refine RS.qv rfl (QO.ibin (by rfl) (by rfl) trivial) (congrArg iv (show (2 : Int) * (bs : Int) = ((2 * bs : Nat) : Int) by omega)) ?_)
              first | (refine RS.q rfl (QO.add (by rfl) (by rfl) (by omega) (by omega)) ?_) | (refine RS.q rfl (QO.ibin (by rfl) (by rfl) trivial) ?_)
              refine RS.q rfl (QO.assign) ?_
              refine RS.nil ?_
              refine blockC_n ?_
              refine loopQ_n (by intro t ht; repeat (first | with_reducible exact rfl | exact frame_puts ht (frame_mix ht) _ rfl | (refine frame_put rfl ht ?_) | (refine frame_puts ht ?_ _ rfl) | exact frame_mix ht | (refine frame_mix2 rfl ht ?_) | exact rfl)) ?_
              exact ⟨(d2, q + 1, A + 2 * bs), ⟨(blk1 hA).2.2.2.symm, (by show A + 2 * bs ≤ n; omega), hM4.trans (m2.mono (Nat.zero_le _) (by omega)), hB4.next hA m2 s2, hU.next hA m2⟩, by show n - (A + 2 * bs) < n - A; omega, kn_cons rfl (kn_cons (congrArg iv (by show ((A + 2 * bs : Nat) : Int) + ((2 * bs : Nat) : Int) = ((A + 2 * bs + 2 * bs : Nat) : Int); omega)) kn_nil), (by repeat (first | exact List.Sublist.refl _ | exact List.nil_sublist _ | refine List.Sublist.cons_cons _ ?_ | refine List.Sublist.cons _ ?_ | exact Sbp.refl | exact Sbp.nil | refine Sbp.cons (by repeat (first | exact Rem.head | apply Rem.tail)) ?_ | exact Sbp.app | refine Sbp.skip ?_ | exact List.sublist_append_left _ _ | exact List.sublist_append_right _ _))⟩
            · have hb2p := of_decide_eq_false hb2
              refine CS.exit ?_
              refine thenC_x ?_
              refine loopQ_x ?_
              refine blockC_x ?_
              refine thenC_n ?_
              refine CS.cut (X := Nat → Pl) (9 :: 49 :: 50 :: 51 :: 52 :: 53 :: 54 :: 55 :: 56 :: 57 :: 58 :: 59 :: 60 :: []) (fun d5 => []) (fun d5 => ⟨g, 91, fl d5 n junk⟩ :: HR) (fun d5 => Mv n 0 n d d5 ∧ Bs lt (2 * bs) n d5) ?_ ?_
              · refine CS.seq ?_
                refine CS.region ?_
                refine RS.q rfl (QO.move) ?_
                refine RS.q rfl (QO.move) ?_
                first | (refine RS.qv rfl (QO.add (by rfl) (by rfl) (by omega) (by omega)) (congrArg iv (show (A : Int) + (bs : Int) = ((A + bs : Nat) : Int) by omega)) ?_) | (refine RS.qv rfl (QO.ibin (by rfl) (by rfl) trivial) (congrArg iv (show (A : Int) + (bs : Int) = ((A + bs : Nat) : Int) by omega)) ?_)
                refine RS.q rfl (QO.assign) ?_
                refine RS.nil ?_
                refine thenC_n ?_
                refine CS.seq ?_
                refine CS.region ?_
                refine RS.q rfl (QO.move) ?_
                refine RS.q rfl (QO.move) ?_
                refine RS.q rfl (QO.lss (by rfl) (by rfl)) ?_
                refine RS.nil ?_
                refine thenC_n ?_
                refine CS.cond (by rfl) (fun hb3 => ?_) (fun hb3 => ?_)
                · have hb3p := of_decide_eq_true hb3
                  refine CS.region ?_
                  refine RS.q rfl (QO.move) ?_
                  refine RS.q rfl (QO.move) ?_
                  refine RS.q rfl (QO.move) ?_
                  refine RS.q rfl (QO.move) ?_
                  refine RS.q rfl (QO.move) ?_
                  refine RS.callH (⟨g, 91, fl E n junk⟩ :: HR) rfl (by rfl) ok188 (by rfl) (by repeat (first | exact List.Sublist.refl _ | exact List.nil_sublist _ | refine List.Sublist.cons_cons _ ?_ | refine List.Sublist.cons _ ?_ | exact Sbp.refl | exact Sbp.nil | refine Sbp.cons (by repeat (first | exact Rem.head | apply Rem.tail)) ?_ | exact Sbp.app | refine Sbp.skip ?_ | exact List.sublist_append_left _ _ | exact List.sublist_append_right _ _)) (fun w ho => symMerge_ g n c junk HR _ fc hn lt hlt hok hf (n - A) A (A + bs) n E rfl (by omega) (by omega) (by omega) hE (hU.one hA (by omega)) (hU.rest hA (by omega))) ?_
                  rintro _ _ ⟨d2, rfl, m2, s2⟩
                  refine RS.nil ?_
                  refine cutQ_n (by intro t ht; repeat (first | with_reducible exact rfl | exact frame_puts ht (frame_mix ht) _ rfl | (refine frame_put rfl ht ?_) | (refine frame_puts ht ?_ _ rfl) | exact frame_mix ht | (refine frame_mix2 rfl ht ?_) | exact rfl)) ?_
                  exact ⟨d2, ⟨hM4.trans (m2.mono (Nat.zero_le _) (Nat.le_refl _)), hB4.fin hA (by omega) m2 s2⟩, (by repeat (first | exact kn_nil | refine kn_cons (by rfl) ?_)), (by repeat (first | exact List.Sublist.refl _ | exact List.nil_sublist _ | refine List.Sublist.cons_cons _ ?_ | refine List.Sublist.cons _ ?_ | exact Sbp.refl | exact Sbp.nil | refine Sbp.cons (by repeat (first | exact Rem.head | apply Rem.tail)) ?_ | exact Sbp.app | refine Sbp.skip ?_ | exact List.sublist_append_left _ _ | exact List.sublist_append_right _ _))⟩
                · have hb3p := of_decide_eq_false hb3
                  refine CS.skip ?_
                  refine cutQ_n (by intro t ht; repeat (first | with_reducible exact rfl | exact frame_puts ht (frame_mix ht) _ rfl | (refine frame_put rfl ht ?_) | (refine frame_puts ht ?_ _ rfl) | exact frame_mix ht | (refine frame_mix2 rfl ht ?_) | exact rfl)) ?_
                  exact ⟨E, ⟨hM4, hB4.fin hA (by omega) (Mv.refl _ _ _ _) (hU.all hA (by omega))⟩, (by repeat (first | exact kn_nil | refine kn_cons (by rfl) ?_)), (by repeat (first | exact List.Sublist.refl _ | exact List.nil_sublist _ | refine List.Sublist.cons_cons _ ?_ | refine List.Sublist.cons _ ?_ | exact Sbp.refl | exact Sbp.nil | refine Sbp.cons (by repeat (first | exact Rem.head | apply Rem.tail)) ?_ | exact Sbp.app | refine Sbp.skip ?_ | exact List.sublist_append_left _ _ | exact List.sublist_append_right _ _))⟩
              · intro d5 gj hz
                obtain ⟨hM5, hB5⟩ := hz
                refine CS.region ?_
                refine RS.q rfl (QO.move) ?_
                first | (refine RS.q rfl (QO.mul (by rfl) (by rfl) (by omega) (by omega)) ?_) | (refine RS.q rfl (QO.ibin (by rfl) (by rfl) trivial) ?_)
                refine RS.q rfl (QO.assign) ?_
                refine RS.nil ?_
                refine blockC_n ?_
                refine loopQ_n (by intro t ht; repeat (first | with_reducible exact rfl | exact frame_puts ht (frame_mix ht) _ rfl | (refine frame_put rfl ht ?_) | (refine frame_puts ht ?_ _ rfl) | exact frame_mix ht | (refine frame_mix2 rfl ht ?_) | exact rfl)) ?_
                exact ⟨(d5, 2 * bs), ⟨(by show 20 ≤ 2 * bs ∧ 2 * bs ≤ 2000000; omega), hM5, hB5⟩, by show 2 * n - 2 * bs < 2 * n - bs; omega, kn_cons (congrArg iv (by show (bs : Int) * 2 = ((2 * bs : Nat) : Int); omega)) kn_nil, (by repeat (first | exact List.Sublist.refl _ | exact List.nil_sublist _ | refine List.Sublist.cons_cons _ ?_ | refine List.Sublist.cons _ ?_ | exact Sbp.refl | exact Sbp.nil | refine Sbp.cons (by repeat (first | exact Rem.head | apply Rem.tail)) ?_ | exact Sbp.app | refine Sbp.skip ?_ | exact List.sublist_append_left _ _ | exact List.sublist_append_right _ _))⟩
        · have hb1p := of_decide_eq_false hb1
          refine CS.exit ?_
          refine thenC_x ?_
          refine loopQ_x ?_
          refine blockC_x ?_
          refine retQ.mk (H' := ⟨g, 91, fl D3 n junk⟩ :: HR) (.inl rfl) RVs.nil (by repeat (first | exact List.Sublist.refl _ | exact List.nil_sublist _ | refine List.Sublist.cons_cons _ ?_ | refine List.Sublist.cons _ ?_ | exact Sbp.refl | exact Sbp.nil | refine Sbp.cons (by repeat (first | exact Rem.head | apply Rem.tail)) ?_ | exact Sbp.app | refine Sbp.skip ?_ | exact List.sublist_append_left _ _ | exact List.sublist_append_right _ _)) ?_
          exact ⟨D3, rfl, hM3, hB3.done (by omega)⟩

set_option maxHeartbeats 4000000 in
set_option maxRecDepth 100000 in
theorem sortStable_ (g n c : Nat) (junk : List Value) (HR : HL) (W : World) (fc : FuncId) (hn : n ≤ 1000000) (lt : Pl → Pl → Bool) (hlt : Ord lt) (hok : callOK Tryd.prog fc = true) (hf : ∀ wd Hd, Own W wd Hd → ∀ x y : Pl, PlP x → PlP y → Fn_ Tryd.prog fc #[.agg (plc x).toArray, .agg (plc y).toArray] wd (fun v H => ∃ r : Int, v = iv r ∧ decide (r < 0) = lt x y ∧ H = [])) (d : Nat → Pl) (hP : ∀ i, PlP (d i)) : FnH Tryd.prog 107 #[.slice (some ⟨g, 0, none⟩) n c, .func (.func fc) #[] #[]] W (⟨g, 91, fl d n junk⟩ :: HR) (fun v H => ∃ d2, H = ⟨g, 91, fl d2 n junk⟩ :: HR ∧ Mv n 0 n d d2 ∧ So lt 0 n d2) := by
  refine FnH.intro Tryd.func107 rfl rfl (by rfl) ?_
  refine CS.region ?_
  refine RS.q rfl (QO.move) ?_
  refine RS.q rfl (QO.move) ?_
  refine RS.q rfl (QO.lenS Tryd.underlying86 (by rfl)) ?_
  refine RS.q rfl (QO.move) ?_
  refine RS.callH (⟨g, 91, fl d n junk⟩ :: HR) rfl (by rfl) ok143 (by rfl) (by repeat (first | exact List.Sublist.refl _ | exact List.nil_sublist _ | refine List.Sublist.cons_cons _ ?_ | refine List.Sublist.cons _ ?_ | exact Sbp.refl | exact Sbp.nil | refine Sbp.cons (by repeat (first | exact Rem.head | apply Rem.tail)) ?_ | exact Sbp.app | refine Sbp.skip ?_ | exact List.sublist_append_left _ _ | exact List.sublist_append_right _ _)) (fun w ho => stable_ g n c junk HR _ fc hn lt hlt hok hf d hP) ?_
  rintro _ _ ⟨d2, rfl, m2, s2⟩
  refine RS.nil ?_
  refine retQ.mk (H' := ⟨g, 91, fl d2 n junk⟩ :: HR) (.inl rfl) RVs.nil (by repeat (first | exact List.Sublist.refl _ | exact List.nil_sublist _ | refine List.Sublist.cons_cons _ ?_ | refine List.Sublist.cons _ ?_ | exact Sbp.refl | exact Sbp.nil | refine Sbp.cons (by repeat (first | exact Rem.head | apply Rem.tail)) ?_ | exact Sbp.app | refine Sbp.skip ?_ | exact List.sublist_append_left _ _ | exact List.sublist_append_right _ _)) ?_
  exact ⟨d2, rfl, m2, s2⟩

end Go.Proofs.YtapcgokcfmklbaaDoor

namespace Go.Proofs.YtapcgokcfmklbaaDoor
open Go Go.RowKit
open Go.Maps (Keyed)
open Go.ChangeMaps (setBlock)
open Go.MapKept

/-- what a map's entries are -/
structure MapOK (P : Program) (k : TypeId) (es : Array MapEntry) (clk : Nat) : Prop where
  keys : ∀ e ∈ es.toList, ∃ l, keyOf P k e.key = some l
  st : Stamped es clk
section
open Classical
/-- what stands at a key -/
noncomputable def mg (es : Array MapEntry) (k : Value) : Option Value := (es.toList.find? (fun e => decide (e.key = k))).map (·.val)
theorem mg_none {es : Array MapEntry} {k : Value} (h : ∀ e ∈ es.toList, e.key ≠ k) : mg es k = none := by
  unfold mg
  rw [List.find?_eq_none.2 (fun e he => by simpa using h e he)]; rfl
theorem mg_none_iff {es : Array MapEntry} {k : Value} : mg es k = none ↔ ∀ e ∈ es.toList, e.key ≠ k := by
  constructor
  · intro h
    unfold mg at h
    simp only [Option.map_eq_none_iff, List.find?_eq_none, decide_eq_true_eq] at h
    exact h
  · exact mg_none
theorem mg_mem {es : Array MapEntry} {k v : Value} (h : mg es k = some v) : ∃ e ∈ es.toList, e.key = k ∧ e.val = v := by
  unfold mg at h
  simp only [Option.map_eq_some_iff] at h
  obtain ⟨e, h1, h2⟩ := h
  refine ⟨e, List.mem_of_find?_eq_some h1, ?_, h2⟩
  have := List.find?_some h1
  simpa using this
theorem mg_of {es : Array MapEntry} {e : MapEntry} (hn : es.toList.Pairwise (fun x y => x.key ≠ y.key)) (he : e ∈ es.toList) : mg es e.key = some e.val := by
  cases h : mg es e.key with
  | none => exact absurd rfl (mg_none_iff.1 h e he)
  | some v =>
    obtain ⟨e', h1, h2, h3⟩ := mg_mem h
    rw [← h3, entry_eq_of_key hn h1 he h2]
end
theorem MapOK.ne {P : Program} {k : TypeId} {es : Array MapEntry} {clk : Nat} (h : MapOK P k es clk) : es.toList.Pairwise (fun x y => x.key ≠ y.key) := ((stamped_iff es clk).1 h.st).2.2
theorem MapOK.nil (P : Program) (k : TypeId) (clk : Nat) : MapOK P k #[] clk := ⟨by simp, stamped_empty clk⟩
theorem mg_nil (k : Value) : mg #[] k = none := mg_none (by simp)
theorem MapOK.find {P : Program} {k : TypeId} {es : Array MapEntry} {clk : Nat} (h : MapOK P k es clk) (K : Keyed P k) {key : Value} {kl : Lit} (hkey : keyOf P k key = some kl) (w : World) :
    ((Instr.findKey k key es.toList).run P w = .ok none w ∧ mg es key = none ∧ ∀ e ∈ es.toList, e.key ≠ key) ∨
    ∃ j e, (Instr.findKey k key es.toList).run P w = .ok (some (j, e.val)) w ∧ es.toList[j]? = some e ∧ e.key = key ∧ mg es key = some e.val := by
  rcases K.find w hkey es.toList h.keys with ⟨h1, h2⟩ | ⟨j, e, h1, h2, h3⟩
  · exact .inl ⟨h1, mg_none h2, h2⟩
  · refine .inr ⟨j, e, h1, h2, h3, ?_⟩
    rw [← h3]
    exact mg_of h.ne (List.mem_of_getElem? h2)
/-- the map stands so in the world: of old, or as a block of the call's own -/
def MapAt (W : World) (H : HL) (g : Nat) (es : Array MapEntry) (clk : Nat) : Prop := W.heap[g]? = some (.map es clk) ∨ ∃ cs, (⟨g, .obj (.map es clk), cs⟩ : B) ∈ H
theorem MapAt.at_ {W w : World} {H : HL} {g : Nat} {es : Array MapEntry} {clk : Nat} (h : MapAt W H g es clk) (ho : Own W w H) : w.heap[g]? = some (.map es clk) := by
  rcases h with h | ⟨cs, h⟩
  · exact (ho.below.block g (Array.getElem?_eq_some_iff.1 h).1).trans h
  · exact (ho.blk _ h).2
/-- an object of the call's own, changed -/
theorem Own.setO {W w : World} {H H' : HL} {g : Nat} {o o' : Obj} {cs : List Value} (ho : Own W w H) (hr : Rem ⟨g, .obj o, cs⟩ H H') : Own W (setBlock w g o') (⟨g, .obj o', cs⟩ :: H') := by
  have hp := ho.perm hr.perm
  obtain ⟨h1, h2⟩ := hp.blk _ (List.mem_cons_self ..)
  have h2' : w.heap[g]? = some o := h2
  have hlt : g < w.heap.size := (Array.getElem?_eq_some_iff.1 h2').1
  have hsz : (setBlock w g o').heap.size = w.heap.size := by simp [setBlock]
  have hoth : ∀ k, k ≠ g → (setBlock w g o').heap[k]? = w.heap[k]? := fun k hk => by
    simp only [setBlock]
    exact Array.getElem?_setIfInBounds_ne (Ne.symm hk)
  refine ⟨⟨hp.below.os, hp.below.tape, hp.below.output, by rw [hsz]; exact hp.below.size, fun k hk => ?_⟩, fun b hb => ?_, ?_⟩
  · have h1' : W.heap.size ≤ g := h1
    rw [hoth k (by omega)]; exact hp.below.block k hk
  · rcases List.mem_cons.1 hb with rfl | hb
    · refine ⟨h1, ?_⟩
      show (setBlock w g o').heap[g]? = some o'
      simp [setBlock, hlt]
    · have h3 := hp.blk b (List.mem_cons_of_mem _ hb)
      refine ⟨h3.1, ?_⟩
      have hne : g ≠ b.g := (List.pairwise_cons.1 hp.ne).1 b hb
      exact (hoth b.g (Ne.symm hne)).trans h3.2
  · exact List.pairwise_cons.2 ⟨(List.pairwise_cons.1 hp.ne).1, (List.pairwise_cons.1 hp.ne).2⟩

def zeroChk (P : Program) (t : TypeId) : Option Value := (P.info? t).bind (·.zero)
theorem run_zeroV {P : Program} {t : TypeId} {v : Value} (h : zeroChk P t = some v) (w : World) : (zeroValue t).run P w = .ok v w := by
  unfold zeroChk at h
  cases hi : P.info? t with
  | none => rw [hi] at h; cases h
  | some i =>
    rw [hi] at h
    simp only [Option.bind_some] at h
    simp [zeroValue, typeInfo, hi, h]
/-- what a look-up hands back -/
def lookV (c : Bool) (z : Value) (o : Option Value) : Value := if c then .tuple #[o.getD z, .bool o.isSome] else o.getD z
section
variable {P : Program} {W : World} {n : Nat} {ops : Array Oper} {Q : Env → HL → Prop} {rest : List Oper} {e : Env} {H H' : HL}
variable {d : Tmp} {d' : Option Tmp} {ty t kt el : TypeId} {pos : String} {af : Array Edge} {x y y2 : Operand} {v z key : Value} {kl : Lit} {g : Nat} {es : Array MapEntry} {clk : Nat} {cs : List Value}
theorem QO.look {c : Bool} (K : Keyed P kt) (ht : P.underlying t = some (.map kt el)) (hz : zeroChk P el = some z) (hm : MapAt W H g es clk) (ok : MapOK P kt es clk)
    (hx : ev e x = .map (some g)) (hy : ev e y = key) (hkey : keyOf P kt key = some kl) : QO P W H e (.lookup t x y c) ty (lookV c z (mg es key)) := fun d pos af gd w ho => by
  have hb := hm.at_ ho
  rcases ok.find K hkey w with ⟨h1, h2, _⟩ | ⟨j, e0, h1, h2, h3, h4⟩
  · simp [execOp, hx, hy, Instr.lookup, run_underlying ht, MapKept.run_getObj_map hb, K.check w _ hkey, h1, run_zeroV hz, h2, lookV]
  · simp [execOp, hx, hy, Instr.lookup, run_underlying ht, MapKept.run_getObj_map hb, K.check w _ hkey, h1, h4, lookV]
theorem RS.makeMap {r : Option Operand} (hd : Nat.blt d n = true) (hr : r = none ∨ (∃ kt el, P.underlying t = some (.map kt el)) ∧ ∃ o i, r = some o ∧ ev e o = .int .i64 i)
    (k : ∀ g, RS P W n ops Q rest (put e d (.map (some g))) (⟨g, .obj (.map #[] 0), []⟩ :: H)) :
    RS P W n ops Q (⟨some d, .makeMap t r, ty, pos, af, none⟩ :: rest) e H := by
  refine RS.step (d := some d) hd fun w ho => ⟨.map (some w.heap.size), w.alloc (.map #[] 0), _, ?_, ho.allocO (.obj (.map #[] 0)) [], k _⟩
  rcases hr with rfl | ⟨⟨kt, el, ht⟩, o, i, rfl, hi⟩
  · simp [execOp, Instr.makeMap]
  · simp [execOp, Instr.makeMap, hi, run_underlying ht, asInt, asIntOf]
theorem RS.mapPut (K : Keyed P kt) (hd : dstOK n d' = true) (ht : P.underlying t = some (.map kt el)) (hr : Rem ⟨g, .obj (.map es clk), cs⟩ H H') (ok : MapOK P kt es clk)
    (hx : ev e x = .map (some g)) (hy : ev e y = key) (hkey : keyOf P kt key = some kl) (hy2 : ev e y2 = v)
    (k : ∀ es' clk', MapOK P kt es' clk' → (∀ k', k' ≠ key → mg es' k' = mg es k') → mg es' key = some v → es'.size = es.size + (if (mg es key).isSome then 0 else 1) →
      RS P W n ops Q rest (putO e d' undef) (⟨g, .obj (.map es' clk'), cs⟩ :: H')) :
    RS P W n ops Q (⟨d', .mapUpdate t x y y2, ty, pos, af, none⟩ :: rest) e H := by
  refine RS.skip hd fun w ho => ?_
  have hb : w.heap[g]? = some (.map es clk) := ((ho.perm hr.perm).blk _ (List.mem_cons_self ..)).2
  rcases ok.find K hkey w with ⟨h1, h2, h3⟩ | ⟨j, e0, h1, h2, h3, h4⟩
  · have ok' : MapOK P kt (es.push ⟨key, v, clk⟩) (clk + 1) := by
      refine ⟨fun e he => ?_, stamped_push ok.st h3⟩
      simp only [Array.toList_push, List.mem_append, List.mem_singleton] at he
      rcases he with he | rfl
      · exact ok.keys e he
      · exact ⟨kl, hkey⟩
    refine ⟨setBlock w g (.map (es.push ⟨key, v, clk⟩) (clk + 1)), _, ?_, ho.setO hr, k _ _ ok' (fun k' hk => ?_) ?_ ?_⟩
    · simp [execOp, hx, hy, hy2, Instr.mapUpdate, run_underlying ht, MapKept.run_getObj_map hb, K.check w false hkey, h1, MapKept.run_setObj_map _ hb, Result.andThen, setBlock]
    · unfold mg
      rw [Array.toList_push, List.find?_append]
      cases hf : List.find? (fun e : MapEntry => @decide (e.key = k') (Classical.propDecidable _)) es.toList with
      | some q => rfl
      | none =>
        simp only [Option.none_or, List.find?_cons, List.find?_nil]
        have : (@decide (key = k') (Classical.propDecidable _)) = false := by simp; exact fun h => hk h.symm
        rw [this]
    · exact mg_of (es := es.push ⟨key, v, clk⟩) (e := ⟨key, v, clk⟩) ok'.ne (by simp)
    · rw [h2]; simp
  · have hj : es[j]? = some e0 := by simpa using h2
    have hjl : j < es.toList.length := (List.getElem?_eq_some_iff.1 h2).1
    have hkeyf : ∀ e', es[j]? = some e' → ({ e' with key := key, val := v } : MapEntry).key = e'.key := fun e' he' => by rw [hj] at he'; cases he'; exact h3.symm
    have hlist : (es.modify j (fun e' => { e' with key := key, val := v })).toList = es.toList.set j { e0 with key := key, val := v } := by rw [Array.toList_modify, ChangeMaps.modify_eq_set _ _ _ _ h2]
    have ok' : MapOK P kt (es.modify j (fun e' => { e' with key := key, val := v })) clk := by
      refine ⟨fun e he => ?_, stamped_modify ok.st _ _ (fun _ _ => rfl) (fun e' _ he' => hkeyf e' he')⟩
      rw [hlist] at he
      rcases List.mem_or_eq_of_mem_set he with he | rfl
      · exact ok.keys e he
      · exact ⟨kl, hkey⟩
    refine ⟨setBlock w g (.map (es.modify j (fun e' => { e' with key := key, val := v })) clk), _, ?_, ho.setO hr, k _ _ ok' (fun k' hk => ?_) ?_ ?_⟩
    · simp [execOp, hx, hy, hy2, Instr.mapUpdate, run_underlying ht, MapKept.run_getObj_map hb, K.check w false hkey, h1, hj, h3, K.stays w hkey, MapKept.run_setObj_map _ hb, Result.andThen, setBlock]
    · cases hf : mg es k' with
      | none =>
        refine mg_none fun e he => ?_
        rw [hlist] at he
        rcases List.mem_or_eq_of_mem_set he with he | rfl
        · exact mg_none_iff.1 hf e he
        · exact fun h => hk h.symm
      | some u =>
        obtain ⟨e1, m1, m2, m3⟩ := mg_mem hf
        have : e1 ∈ (es.modify j (fun e' => { e' with key := key, val := v })).toList := by
          rw [hlist]
          obtain ⟨i, hi, hie⟩ := List.getElem_of_mem m1
          have hij : j ≠ i := fun hh => by
            subst hh
            have h5 := List.getElem?_eq_getElem hi
            rw [h2, hie] at h5
            have h6 : e0 = e1 := Option.some.inj h5
            exact hk (by rw [← m2, ← h6, h3])
          exact List.mem_iff_getElem.2 ⟨i, by simpa using hi, by rw [List.getElem_set_ne hij]; exact hie⟩
        rw [← m2, ← m3]
        exact mg_of ok'.ne this
    · exact mg_of (e := { e0 with key := key, val := v }) ok'.ne (by rw [hlist]; exact List.mem_iff_getElem.2 ⟨j, by simpa using hjl, by simp⟩)
    · rw [h4]; simp
/-! ranging -/
/-- an iterator that has handed out the entries vs -/
structure ItOK (es : Array MapEntry) (seen : Array Nat) (vs : List MapEntry) : Prop where
  sub : ∀ e ∈ vs, e ∈ es.toList
  ne : vs.Pairwise (fun x y => x.key ≠ y.key)
  seen : seen.toList = vs.map (·.born)
theorem ItOK.nil (es : Array MapEntry) : ItOK es #[] [] := ⟨by simp, .nil, rfl⟩
end
end Go.Proofs.YtapcgokcfmklbaaDoor

namespace Go.Proofs.YtapcgokcfmklbaaDoor
open Go

/-! ### the order of names -/
theorem cmpB_lt : ∀ a b : List UInt8, Lib.compareBytes a b < 0 ↔ a < b
  | [], [] => by simp [Lib.compareBytes]
  | [], b :: bs => by simp [Lib.compareBytes]
  | a :: as_, [] => by simp [Lib.compareBytes]
  | a :: as_, b :: bs => by
    have ih := cmpB_lt as_ bs
    simp only [Lib.compareBytes, List.cons_lt_cons_iff]
    by_cases h1 : a < b
    · simp [h1]
    · by_cases h2 : b < a
      · have h3 : a ≠ b := fun h => by subst h; exact h1 h2
        simp [h1, h2, h3]
      · have h3 : a = b := by
          have := UInt8.le_antisymm (UInt8.not_lt.1 h2) (UInt8.not_lt.1 h1)
          exact this
        simp [h3, ih]
theorem cmpB_eq : ∀ a b : List UInt8, Lib.compareBytes a b = 0 ↔ a = b
  | [], [] => by simp [Lib.compareBytes]
  | [], b :: bs => by simp [Lib.compareBytes]
  | a :: as_, [] => by simp [Lib.compareBytes]
  | a :: as_, b :: bs => by
    have ih := cmpB_eq as_ bs
    simp only [Lib.compareBytes]
    by_cases h1 : a < b
    · have h3 : a ≠ b := fun h => by subst h; exact absurd h1 (UInt8.lt_irrefl a)
      simp [h1, h3]
    · by_cases h2 : b < a
      · have h3 : a ≠ b := fun h => by subst h; exact h1 h2
        simp [h1, h2, h3]
      · have h3 : a = b := UInt8.le_antisymm (UInt8.not_lt.1 h2) (UInt8.not_lt.1 h1)
        simp [h3, ih]
/-- by reel, then by place -/
def ltP (x y : Pl) : Bool := decide (x.reel < y.reel ∨ (x.reel = y.reel ∧ x.i < y.i))
theorem nlt_of_lt {a b : List UInt8} (h : a < b) : ¬ b < a := List.lt_asymm h
theorem ltP_f {x y : Pl} : ltP x y = false ↔ ¬ x.reel < y.reel ∧ (x.reel = y.reel → y.i ≤ x.i) := by
  unfold ltP
  rw [decide_eq_false_iff_not]
  constructor
  · intro h
    exact ⟨fun h1 => h (.inl h1), fun h1 => Int.not_lt.1 fun h2 => h (.inr ⟨h1, h2⟩)⟩
  · rintro ⟨h1, h2⟩ (h | ⟨h3, h4⟩)
    · exact h1 h
    · have := h2 h3; omega
theorem le_total' (a b : List UInt8) (h : ¬ a < b) (h' : ¬ b < a) : a = b := List.le_antisymm (List.not_lt.1 h') (List.not_lt.1 h)
theorem ltP_t {x y : Pl} : ltP x y = true ↔ x.reel < y.reel ∨ (x.reel = y.reel ∧ x.i < y.i) := by unfold ltP; rw [decide_eq_true_eq]
theorem ordP : Ord ltP where
  asym x y h := by
    rw [ltP_t] at h
    rw [ltP_f]
    rcases h with h | ⟨h1, h2⟩
    · exact ⟨nlt_of_lt h, fun e => absurd h (by rw [← e]; exact List.lt_irrefl _)⟩
    · rw [h1]
      exact ⟨List.lt_irrefl _, fun _ => by omega⟩
  trans x y z h1 h2 := by
    rw [ltP_f] at h1 h2 ⊢
    have h4 : x.reel ≤ y.reel := List.not_lt.1 h1.1
    have h5 : y.reel ≤ z.reel := List.not_lt.1 h2.1
    refine ⟨List.not_lt.2 (List.le_trans h4 h5), fun e => ?_⟩
    have e1 : y.reel = x.reel := List.le_antisymm (by rw [← e]; exact h5) h4
    have e2 : z.reel = y.reel := e.trans e1.symm
    have := h1.2 e1
    have := h2.2 e2
    omega
/-- by place alone -/
def ltI (x y : Pl) : Bool := decide (x.i < y.i)
theorem ordI : Ord ltI where
  asym x y h := by
    unfold ltI at *
    rw [decide_eq_true_eq] at h
    rw [decide_eq_false_iff_not]; omega
  trans x y z h1 h2 := by
    unfold ltI at *
    rw [decide_eq_false_iff_not] at *
    omega

/-! ### reel by reel -/
abbrev RG := List UInt8 × List Pl
def gadd : List RG → Pl → List RG
  | [], p => [(p.reel, [p])]
  | (r, l) :: rest, p => if r = p.reel then (r, l ++ [p]) :: rest else (r, l) :: gadd rest p
def grp (ps : List Pl) : List RG := ps.foldl gadd []
theorem grp_app (l : List Pl) (p : Pl) : grp (l ++ [p]) = gadd (grp l) p := by unfold grp; rw [List.foldl_append]; rfl
theorem gadd_new : ∀ {g : List RG} {p : Pl}, (∀ e ∈ g, e.1 ≠ p.reel) → gadd g p = g ++ [(p.reel, [p])]
  | [], p, _ => rfl
  | (r, l) :: rest, p, h => by
    have h1 : r ≠ p.reel := h (r, l) (by simp)
    simp only [gadd, if_neg h1]
    rw [gadd_new (fun e he => h e (by simp [he]))]; rfl
theorem gadd_old : ∀ {A B : List RG} {l : List Pl} {p : Pl}, (∀ e ∈ A, e.1 ≠ p.reel) → gadd (A ++ (p.reel, l) :: B) p = A ++ (p.reel, l ++ [p]) :: B
  | [], B, l, p, _ => by simp [gadd]
  | (r, m) :: A, B, l, p, h => by
    have h1 : r ≠ p.reel := h (r, m) (by simp)
    simp only [List.cons_append, gadd, if_neg h1]
    rw [gadd_old (fun e he => h e (by simp [he]))]
/-- what the groups are -/
structure GOK (g : List RG) (ps : List Pl) : Prop where
  nd : (g.map (·.1)).Nodup
  own : ∀ e ∈ g, e.2 ≠ [] ∧ ∀ p ∈ e.2, p.reel = e.1
  perm : (g.flatMap (·.2)).Perm ps
theorem GOK.nil : GOK [] [] := ⟨by simp, by simp, by simp⟩
theorem find_split : ∀ (g : List RG) (r : List UInt8), (∀ e ∈ g, e.1 ≠ r) ∨ ∃ A l B, g = A ++ (r, l) :: B ∧ ∀ e ∈ A, e.1 ≠ r
  | [], r => .inl (by simp)
  | (q, l) :: g, r => by
    by_cases h : q = r
    · subst h; exact .inr ⟨[], l, g, rfl, by simp⟩
    · rcases find_split g r with h1 | ⟨A, l', B, h1, h2⟩
      · left
        intro e he
        rcases List.mem_cons.1 he with rfl | he
        · exact h
        · exact h1 e he
      · refine .inr ⟨(q, l) :: A, l', B, by rw [h1]; rfl, fun e he => ?_⟩
        rcases List.mem_cons.1 he with rfl | he
        · exact h
        · exact h2 e he
theorem GOK.add {g : List RG} {ps : List Pl} (h : GOK g ps) (p : Pl) : GOK (gadd g p) (ps ++ [p]) := by
  rcases find_split g p.reel with h1 | ⟨A, l, B, rfl, h2⟩
  · rw [gadd_new h1]
    refine ⟨?_, fun e he => ?_, ?_⟩
    · rw [List.map_append, List.nodup_append]
      refine ⟨h.nd, by simp, fun a ha b hb => ?_⟩
      obtain ⟨e, he, rfl⟩ := List.mem_map.1 ha
      simp only [List.map_cons, List.map_nil, List.mem_singleton] at hb
      rw [hb]; exact h1 e he
    · rcases List.mem_append.1 he with he | he
      · exact h.own e he
      · rw [List.mem_singleton.1 he]; exact ⟨by simp, by simp⟩
    · rw [List.flatMap_append]
      simpa using h.perm.append_right [p]
  · rw [gadd_old h2]
    have hnd := h.nd
    refine ⟨by simpa using hnd, fun e he => ?_, ?_⟩
    · rcases List.mem_append.1 he with he | he
      · exact h.own e (by simp [he])
      · rcases List.mem_cons.1 he with rfl | he
        · refine ⟨by simp, fun q hq => ?_⟩
          rcases List.mem_append.1 hq with hq | hq
          · exact (h.own (p.reel, l) (by simp)).2 q hq
          · rw [List.mem_singleton.1 hq]
        · exact h.own e (by simp [he])
    · have h3 := h.perm
      rw [List.flatMap_append, List.flatMap_cons] at h3 ⊢
      have h4 : (A.flatMap (·.2) ++ (l ++ [p] ++ B.flatMap (·.2))).Perm (A.flatMap (·.2) ++ (l ++ B.flatMap (·.2)) ++ [p]) := by
        rw [List.append_assoc, List.append_assoc]
        refine List.Perm.append_left _ ?_
        rw [List.append_assoc]
        refine List.Perm.append_left _ ?_
        exact List.perm_append_comm
      exact h4.trans (h3.append_right [p])
theorem grp_ok : ∀ ps : List Pl, GOK (grp ps) ps := by
  intro ps
  suffices h : ∀ (l done : List Pl) (g : List RG), GOK g done → GOK (l.foldl gadd g) (done ++ l) by
    have := h ps [] [] .nil
    rw [List.nil_append] at this
    exact this
  intro l
  induction l with
  | nil => intro done g h; simpa using h
  | cons p l ih =>
    intro done g h
    have := ih (done ++ [p]) (gadd g p) (h.add p)
    simpa using this

/-! ### both ways -/
end Go.Proofs.YtapcgokcfmklbaaDoor

namespace Go.Proofs.YtapcgokcfmklbaaDoor
open Go Go.RowKit
open Go.Maps (Keyed)

theorem rem_of_mem {b : B} : ∀ {H : HL}, b ∈ H → ∃ H', Rem b H H'
  | [], h => by simp at h
  | c :: H, h => by
    rcases List.mem_cons.1 h with rfl | h
    · exact ⟨H, .head⟩
    · obtain ⟨H', h'⟩ := rem_of_mem h
      exact ⟨c :: H', .tail h'⟩
theorem Sbp.ofPerm : ∀ {L K H : HL}, H.Perm (L ++ K) → Sbp L H
  | [], _, _, _ => .nil
  | b :: L, K, H, h => by
    obtain ⟨H', h'⟩ := rem_of_mem (h.symm.subset (show b ∈ b :: (L ++ K) by simp))
    refine .cons h' (Sbp.ofPerm (K := K) ?_)
    exact List.perm_cons b |>.1 (h'.perm.symm.trans h)
theorem Sbp.ofPerm0 {L H : HL} (h : H.Perm L) : Sbp L H := Sbp.ofPerm (K := []) (by rw [List.append_nil]; exact h)
theorem Suf.any (Hr : HL) : ∀ L : HL, Suf Hr (L ++ Hr) L
  | [] => .base
  | _ :: L => .cons (Suf.any Hr L)
theorem Suf.nil0 : ∀ L : HL, Suf [] L L
  | [] => .base
  | _ :: L => .cons (Suf.nil0 L)
theorem Upd.app {g : Nat} {t : BT} {cs cs' : List Value} {K K' : HL} (L : HL) (h : Upd g t cs cs' K K') : Upd g t cs cs' (L ++ K) (L ++ K') := by
  induction L with
  | nil => exact h
  | cons b L ih => exact .tail ih
/-- a row with its name -/
structure RE where
  r : List UInt8
  l : List Pl
  v : Value
  H : HL
def fam (rs : List RE) : HL := rs.flatMap (·.H)
theorem fam_app (a b : List RE) : fam (a ++ b) = fam a ++ fam b := by simp [fam]
theorem fam_cons (e : RE) (b : List RE) : fam (e :: b) = e.H ++ fam b := rfl
def rgs1 (rs : List RE) : List RG := rs.map fun e => (e.r, e.l)
def rowOf (rs : List RE) (r : List UInt8) : Option Value := (rs.find? fun e => decide (e.r = r)).map (·.v)
/-- the map has the rows -/
structure FamOK (P : Program) (t : TypeId) (es : Array MapEntry) (clk : Nat) (rs : List RE) : Prop where
  ok : MapOK P 9 es clk
  row : ∀ e ∈ rs, Row t 3 e.v e.l.length (pls e.l) e.H
  get : ∀ r, mg es (sv r) = rowOf rs r
theorem rowOf_none {rs : List RE} {r : List UInt8} (h : ∀ e ∈ rs, e.r ≠ r) : rowOf rs r = none := by
  unfold rowOf
  rw [List.find?_eq_none.2 (fun e he => by simpa using h e he)]; rfl
theorem rowOf_some {A B : List RE} {e : RE} (h : ∀ x ∈ A, x.r ≠ e.r) : rowOf (A ++ e :: B) e.r = some e.v := by
  unfold rowOf
  rw [List.find?_append, List.find?_eq_none.2 (fun x hx => by simpa using h x hx), Option.none_or, List.find?_cons]
  simp
theorem rowOf_other {A B : List RE} {e e' : RE} {r : List UInt8} (he : e.r = e'.r) (hr : r ≠ e.r) : rowOf (A ++ e :: B) r = rowOf (A ++ e' :: B) r := by
  unfold rowOf
  rw [List.find?_append, List.find?_append, List.find?_cons, List.find?_cons]
  have h1 : decide (e.r = r) = false := by simpa using Ne.symm hr
  have h2 : decide (e'.r = r) = false := by rw [← he]; exact h1
  rw [h1, h2]
theorem rowOf_new {rs : List RE} {e : RE} {r : List UInt8} (hr : r ≠ e.r) : rowOf (rs ++ [e]) r = rowOf rs r := by
  unfold rowOf
  rw [List.find?_append, List.find?_cons]
  have h1 : decide (e.r = r) = false := by simpa using Ne.symm hr
  rw [h1]; simp
theorem rs_split : ∀ (rs : List RE) (r : List UInt8), (∀ e ∈ rs, e.r ≠ r) ∨ ∃ A e B, rs = A ++ e :: B ∧ e.r = r ∧ ∀ x ∈ A, x.r ≠ r
  | [], r => .inl (by simp)
  | e :: rs, r => by
    by_cases h : e.r = r
    · exact .inr ⟨[], e, rs, rfl, h, by simp⟩
    · rcases rs_split rs r with h1 | ⟨A, e', B, h1, h2, h3⟩
      · left
        intro x hx
        rcases List.mem_cons.1 hx with rfl | hx
        · exact h
        · exact h1 x hx
      · refine .inr ⟨e :: A, e', B, by rw [h1]; rfl, h2, fun x hx => ?_⟩
        rcases List.mem_cons.1 hx with rfl | hx
        · exact h
        · exact h3 x hx
theorem sv_inj {a b : List UInt8} (h : sv a = sv b) : a = b := by
  have h1 : (⟨a.toArray⟩ : ByteArray) = ⟨b.toArray⟩ := Value.string.inj h
  have h2 : a.toArray = b.toArray := by injection h1
  simpa using congrArg Array.toList h2
/-- a new name -/
theorem FamOK.new {P : Program} {t : TypeId} {es es' : Array MapEntry} {clk clk' : Nat} {rs : List RE} {r : List UInt8} {l : List Pl} {v : Value} {H : HL} (h : FamOK P t es clk rs) (ok : MapOK P 9 es' clk')
    (ho : ∀ k', k' ≠ sv r → mg es' k' = mg es k') (hs : mg es' (sv r) = some v) (hn : ∀ e ∈ rs, e.r ≠ r) (hrow : Row t 3 v l.length (pls l) H) : FamOK P t es' clk' (rs ++ [⟨r, l, v, H⟩]) where
  ok := ok
  row e he := by
    rcases List.mem_append.1 he with he | he
    · exact h.row e he
    · rw [List.mem_singleton.1 he]; exact hrow
  get q := by
    by_cases hq : q = r
    · subst hq
      rw [hs, rowOf_some (A := rs) (B := []) hn]
    · rw [ho _ (fun hh => hq (sv_inj hh)), h.get q, rowOf_new hq]
/-- an old one -/
theorem FamOK.old {P : Program} {t : TypeId} {es es' : Array MapEntry} {clk clk' : Nat} {A B : List RE} {e : RE} {l : List Pl} {v : Value} {H : HL} (h : FamOK P t es clk (A ++ e :: B)) (ok : MapOK P 9 es' clk')
    (ho : ∀ k', k' ≠ sv e.r → mg es' k' = mg es k') (hs : mg es' (sv e.r) = some v) (hn : ∀ x ∈ A, x.r ≠ e.r) (hrow : Row t 3 v l.length (pls l) H) : FamOK P t es' clk' (A ++ ⟨e.r, l, v, H⟩ :: B) where
  ok := ok
  row x hx := by
    rcases List.mem_append.1 hx with hx | hx
    · exact h.row x (by simp [hx])
    · rcases List.mem_cons.1 hx with rfl | hx
      · exact hrow
      · exact h.row x (by simp [hx])
  get q := by
    by_cases hq : q = e.r
    · subst hq
      rw [hs]
      exact (rowOf_some (A := A) (e := ⟨e.r, l, v, H⟩) (B := B) hn).symm
    · rw [ho _ (fun hh => hq (sv_inj hh)), h.get q]
      exact rowOf_other rfl hq
theorem FamOK.nil (P : Program) (t : TypeId) (clk : Nat) : FamOK P t #[] clk [] := ⟨.nil P 9 clk, by simp, fun r => by rw [mg_nil]; rfl⟩

/-! ### what an event asks for -/
def nxD (l : List Ev) (k : Nat) : Int := if k + 1 < l.length ∧ (l.getD (k + 1) default).kind = 2 then (l.getD (k + 1) default).len else 0
def pullP (l : List Ev) (h : Int) (k : Nat) : Pl := ⟨(l.getD k default).reel, max ((l.getD k default).inn - h) 0, (l.getD k default).out + h + nxD l k⟩
def pullsL (l : List Ev) (h : Int) (k : Nat) : List Pl := (List.range k).map (pullP l h)
theorem pullsL_succ (l : List Ev) (h : Int) (k : Nat) : pullsL l h (k + 1) = pullsL l h k ++ [pullP l h k] := by simp [pullsL, List.range_succ]
theorem ev_mem {l : List Ev} {k : Nat} (hk : k < l.length) : l.getD k default ∈ l := by
  rw [List.getD_eq_getElem?_getD, List.getElem?_eq_getElem hk]; exact List.getElem_mem hk
theorem pullsL_len (l : List Ev) (h : Int) (k : Nat) : (pullsL l h k).length = k := by simp [pullsL]
theorem ev_ok {t : List UInt8} {r : Int} {l : List Ev} (h : edE t r l = 0) {i : Nat} (hi : i < l.length) :
    nameB (l.getD i default).reel = true ∧ ((l.getD i default).kind = 1 ∧ (l.getD i default).len = 0 ∨ (l.getD i default).kind = 2 ∧ 1 ≤ (l.getD i default).len ∧ (l.getD i default).len ≤ 250) ∧ 0 ≤ (l.getD i default).inn ∧ (l.getD i default).inn < (l.getD i default).out ∧ (l.getD i default).out ≤ 16777216 ∧ 0 ≤ (l.getD i default).at_ ∧ (l.getD i default).at_ ≤ 16777216 := by
  have h1 := (edE_ok h).2.2.2 i hi
  have h2 := evE1_ok h1
  refine ⟨h2.1, ?_⟩
  omega
theorem nxD_bd {t : List UInt8} {r : Int} {l : List Ev} (h : edE t r l = 0) (k : Nat) : 0 ≤ nxD l k ∧ nxD l k ≤ 250 := by
  unfold nxD
  split
  · rename_i hc
    have := ev_ok h hc.1
    omega
  · omega
theorem nxD_T {l : List Ev} {k : Nat} (h : k + 1 < l.length) (h2 : (l.getD (k + 1) default).kind = 2) : nxD l k = (l.getD (k + 1) default).len := if_pos ⟨h, h2⟩
theorem nxD_F {l : List Ev} {k : Nat} (h : k + 1 < l.length) (h2 : (l.getD (k + 1) default).kind ≠ 2) : nxD l k = 0 := if_neg (fun hh => h2 hh.2)
theorem nxD_N {l : List Ev} {k : Nat} (h : ¬ k + 1 < l.length) : nxD l k = 0 := if_neg (fun hh => h hh.1)
/-- as the reference has it -/
theorem nxD_R {t : List UInt8} {r : Int} {l : List Ev} (h : edE t r l = 0) {k : Nat} (hk : k + 1 < l.length) : nxD l k = (l.getD (k + 1) default).len := by
  have := ev_ok h hk
  by_cases h2 : (l.getD (k + 1) default).kind = 2
  · exact nxD_T hk h2
  · rw [nxD_F hk h2]; omega
theorem pull_ok {t : List UInt8} {r h : Int} {l : List Ev} (hE : edE t r l = 0) (h0 : 0 ≤ h) (h1 : h ≤ 1000) {k : Nat} (hk : k < l.length) :
    0 ≤ (pullP l h k).i ∧ (pullP l h k).i ≤ 16777216 ∧ (pullP l h k).i < (pullP l h k).o ∧ (pullP l h k).o ≤ 17000000 := by
  have := ev_ok hE hk
  have := nxD_bd hE k
  unfold pullP
  simp only
  omega
/-- what both hand back -/
def IsM (l : List Ev) (h : Int) (m : List Pl) : Prop := ∃ L : List Pl, L.Perm (pullsL l h l.length) ∧ L.Pairwise (fun x y => ltP y x = false) ∧ m = mrg L
theorem IsM.uniq {t : List UInt8} {r h : Int} {l : List Ev} (hE : edE t r l = 0) (h0 : 0 ≤ h) (h1 : h ≤ 1000) {m m' : List Pl} (a : IsM l h m) (b : IsM l h m') : m = m' := by
  obtain ⟨L, p1, s1, rfl⟩ := a
  obtain ⟨L', p2, s2, rfl⟩ := b
  unfold mrg
  refine foldl_sorted ltP (fun p => p.i ≤ p.o) mstep (fun b x y hx hy h1 h2 => ?_) (fun x => ?_) _ _ _ (p1.trans p2.symm) (fun x hx => ?_) s1 s2
  · rw [ltP_f] at h1 h2
    have e := le_total' _ _ h1.1 h2.1
    have := h1.2 e
    have := h2.2 e.symm
    exact mstep_comm b x y hx hy e (by omega)
  · rw [ltP_f]; exact ⟨List.lt_irrefl _, fun _ => Int.le_refl _⟩
  · obtain ⟨k, hk, rfl⟩ := List.mem_map.1 (p1.subset hx)
    have := pull_ok hE h0 h1 (List.mem_range.1 hk)
    show (pullP l h k).i ≤ (pullP l h k).o
    omega
theorem groups_sorted {G : List RG} (hr : (G.map (·.1)).Pairwise (· < ·)) (hown : ∀ e ∈ G, (∀ p ∈ e.2, p.reel = e.1) ∧ e.2.Pairwise (fun x y => ltI y x = false)) : (G.flatMap (·.2)).Pairwise (fun x y => ltP y x = false) := by
  induction G with
  | nil => simp
  | cons e G ih =>
    rw [List.flatMap_cons, List.pairwise_append]
    rw [List.map_cons, List.pairwise_cons] at hr
    refine ⟨?_, ih hr.2 (fun e' he' => hown e' (by simp [he'])), fun x hx y hy => ?_⟩
    · obtain ⟨h1, h2⟩ := hown e (by simp)
      refine List.Pairwise.imp_of_mem (fun {x y} hx hy hxy => ?_) h2
      rw [ltP_f, h1 x hx, h1 y hy]
      refine ⟨List.lt_irrefl _, fun _ => ?_⟩
      unfold ltI at hxy
      rw [decide_eq_false_iff_not] at hxy
      omega
    · obtain ⟨e', he', hy'⟩ := List.mem_flatMap.1 hy
      have h3 := hr.1 e'.1 (List.mem_map.2 ⟨e', he', rfl⟩)
      rw [ltP_f, (hown e (by simp)).1 x hx, (hown e' (by simp [he'])).1 y hy']
      exact ⟨nlt_of_lt h3, fun h => absurd h3 (by rw [h]; exact List.lt_irrefl _)⟩
end Go.Proofs.YtapcgokcfmklbaaDoor

namespace Go.Proofs.YtapcgokcfmklbaaDoor
open Go Go.RowKit Go.Sort

theorem putCells_appS (ts : List (List UInt8)) (xs junk : List Value) (h : ts.length = xs.length) : (putCells encStr 0 ts.toArray (xs ++ junk).toArray) = (ts.map encStr ++ junk).toArray := by
  apply Array.ext_getElem?
  intro j
  unfold putCells
  simp only [Array.getElem?_mapIdx, List.getElem?_toArray]
  by_cases hj : j < ts.length
  · rw [List.getElem?_append_left (by omega), List.getElem?_append_left (by simpa using hj), List.getElem?_eq_getElem (by omega), List.getElem?_map, List.getElem?_eq_getElem hj]
    simp [hj]
  · rw [List.getElem?_append_right (by omega), List.getElem?_append_right (by simpa using hj), List.length_map, h]
    cases hc : junk[j - xs.length]? with
    | none => rfl
    | some v => simp; intro h2; omega
theorem Own.sortedS {W w : World} {g n : Nat} {os : Array Obj} {e : TypeId} {xs junk : List Value} {ts : List (List UInt8)} {HR : HL} (ho : Own W w (⟨g, e, xs ++ junk⟩ :: HR)) (h : ts.length = xs.length) :
    Own W (grow (putRow encStr (Sort.ahead w n) g 0 ts.toArray) os) (⟨g, e, ts.map encStr ++ junk⟩ :: HR) := by
  obtain ⟨hg1, hg2⟩ := ho.blk _ (List.mem_cons_self ..)
  have r3 := grownBy_sorted (w := w) (g := g) (n := n) (os := os) ts.toArray
  refine ⟨ho.below.grown r3 ho.below.size (fun k hk => by simp only [Option.some.injEq] at hk; subst hk; exact hg1), fun b hb => ?_, ?_⟩
  · rcases List.mem_cons.1 hb with rfl | hb
    · refine ⟨hg1, ?_⟩
      have h3 := heap_sorted (n := n) (os := os) ts.toArray hg2
      unfold Blk
      show _ = some (Obj.cells (ts.map encStr ++ junk).toArray e)
      rw [← putCells_appS ts xs junk h]
      exact h3
    · have h2 := ho.blk b (List.mem_cons_of_mem _ hb)
      refine ⟨h2.1, (r3.block b.g h2.2.lt ?_).trans h2.2⟩
      intro hbg
      simp only [Option.some.injEq] at hbg
      exact (List.pairwise_cons.1 ho.ne).1 b hb hbg.symm
  · exact List.pairwise_cons.2 ⟨(List.pairwise_cons.1 ho.ne).1, (List.pairwise_cons.1 ho.ne).2⟩
/-- names, sorted -/
def srtS (zs : List (List UInt8)) : List (List UInt8) := zs.mergeSort fun x y => decide (x ≤ y)
theorem srtS_len (zs : List (List UInt8)) : (srtS zs).length = zs.length := List.length_mergeSort _
theorem srtS_perm (zs : List (List UInt8)) : (srtS zs).Perm zs := List.mergeSort_perm _ _
theorem srtS_le (zs : List (List UInt8)) : (srtS zs).Pairwise (· ≤ ·) := by
  have := List.pairwise_mergeSort (le := fun x y : List UInt8 => decide (x ≤ y)) (fun a b c h1 h2 => by simp only [decide_eq_true_eq] at *; exact List.le_trans h1 h2) (fun a b => by simp only [Bool.or_eq_true, decide_eq_true_eq]; exact List.le_total a b) zs
  exact this.imp fun h => by simpa using h
theorem srtS_lt {zs : List (List UInt8)} (h : zs.Nodup) : (srtS zs).Pairwise (· < ·) := by
  have h1 := srtS_le zs
  have h2 : (srtS zs).Nodup := (srtS_perm zs).nodup_iff.2 h
  refine (List.Pairwise.and h1 h2).imp fun {a b} h => ?_
  rcases Decidable.em (a < b) with h3 | h3
  · exact h3
  · exact absurd (List.le_antisymm h.1 (List.not_lt.1 h3)) h.2
theorem own_holdsS {W w : World} {g : Nat} {e : TypeId} {zs : List (List UInt8)} {junk : List Value} {HR : HL} (ho : Own W w (⟨g, e, zs.map encStr ++ junk⟩ :: HR)) : Holds encStr w g 0 zs.toArray := by
  have hg2 := (ho.blk _ (List.mem_cons_self ..)).2
  refine holds_of_block (e := e) hg2 ?_
  show (zs.map encStr ++ junk).take zs.length = _
  rw [List.take_left' (by simp)]
end Go.Proofs.YtapcgokcfmklbaaDoor

namespace Go.Proofs.YtapcgokcfmklbaaDoor
open Go Go.RowKit

theorem Row.some3 {el s : Nat} {v : Value} {n : Nat} {xs : List Value} {H : HL} (h : Row el s v n xs H) (hn : 0 < n) :
    ∃ g cap junk, v = .slice (Option.some ⟨g, 0, none⟩) n cap ∧ H = [⟨g, el, xs ++ junk⟩] ∧ n ≤ cap ∧ cap ≤ maxLen ∧ xs.length = n * s ∧ xs.length + junk.length = cap * s := by
  cases h with
  | nil => omega
  | own hl hc hn hm => exact ⟨_, _, _, rfl, rfl, hn, hm, hl, hc⟩
theorem fam_new (rs : List RE) (x : RE) (Y : HL) : ((fam rs ++ Y) ++ x.H).Perm (fam (rs ++ [x]) ++ Y) := by
  rw [fam_app, show fam [x] = x.H by simp [fam], List.append_assoc, List.append_assoc]
  exact List.Perm.append_left _ List.perm_append_comm
theorem fam_out (A B : List RE) (x : RE) (Y : HL) : (fam (A ++ x :: B) ++ Y).Perm ((fam (A ++ B) ++ Y) ++ x.H) := by
  rw [fam_app, fam_app, fam_cons, List.append_assoc, List.append_assoc, List.append_assoc, List.append_assoc]
  refine List.Perm.append_left _ ?_
  rw [show fam B ++ (Y ++ x.H) = (fam B ++ Y) ++ x.H from (List.append_assoc _ _ _).symm]
  exact List.perm_append_comm
theorem perm_in2 (a b c : B) (L : HL) : (a :: b :: (L ++ [c])).Perm (c :: a :: b :: L) := by
  have h1 : (L ++ [c]).Perm (c :: L) := List.perm_append_singleton c L
  exact ((h1.cons b).cons a).trans (((List.Perm.swap c b L).cons a).trans (List.Perm.swap c a (b :: L)))
theorem perm_in3 (a b d c : B) (L : HL) : (a :: b :: d :: (L ++ [c])).Perm (c :: a :: b :: d :: L) :=
  ((perm_in2 b d c L).cons a).trans (List.Perm.swap c a (b :: d :: L))
theorem grp_len (ps : List Pl) : (grp ps).length ≤ ps.length := by
  suffices h : ∀ (l : List Pl) (g : List RG), (l.foldl gadd g).length ≤ g.length + l.length by
    have := h ps []
    unfold grp; simpa using this
  intro l
  induction l with
  | nil => intro g; simp
  | cons p l ih =>
    intro g
    have h1 := ih (gadd g p)
    have h2 : (gadd g p).length ≤ g.length + 1 := by
      rcases find_split g p.reel with h | ⟨A, l', B, rfl, h⟩
      · rw [gadd_new h]; simp
      · rw [gadd_old h]; simp
    simp only [List.foldl_cons, List.length_cons]
    omega
theorem rs_len {rs : List RE} {ps : List Pl} (h : rgs1 rs = grp ps) : rs.length ≤ ps.length := by
  have := grp_len ps
  rw [← h] at this
  simpa [rgs1] using this
theorem rs_ok {rs : List RE} {ps : List Pl} (h : rgs1 rs = grp ps) {x : RE} (hx : x ∈ rs) : x.l ≠ [] ∧ ∀ p ∈ x.l, p.reel = x.r := by
  have := (grp_ok ps).own (x.r, x.l) (by rw [← h]; exact List.mem_map.2 ⟨x, hx, rfl⟩)
  exact this
theorem rs_perm {rs : List RE} {ps : List Pl} (h : rgs1 rs = grp ps) : (rs.flatMap (·.l)).Perm ps := by
  have := (grp_ok ps).perm
  rw [← h] at this
  have e : (rgs1 rs).flatMap (·.2) = rs.flatMap (·.l) := by simp [rgs1, List.flatMap_map]
  rw [e] at this
  exact this
theorem rs_nd {rs : List RE} {ps : List Pl} (h : rgs1 rs = grp ps) : (rs.map (·.r)).Nodup := by
  have := (grp_ok ps).nd
  rw [← h] at this
  have e : (rgs1 rs).map (·.1) = rs.map (·.r) := by unfold rgs1; rw [List.map_map]; rfl
  rw [e] at this
  exact this
theorem rs_lone {rs : List RE} {ps : List Pl} (h : rgs1 rs = grp ps) {x : RE} (hx : x ∈ rs) : x.l.length ≤ ps.length := by
  have h1 := (rs_perm h).length_eq
  obtain ⟨A, B, rfl⟩ := List.append_of_mem hx
  simp only [List.flatMap_append, List.flatMap_cons, List.length_append] at h1
  omega
theorem rs_new {rs : List RE} {ps : List Pl} {p : Pl} {v : Value} {H : HL} (h : rgs1 rs = grp ps) (hn : ∀ e ∈ rs, e.r ≠ p.reel) : rgs1 (rs ++ [⟨p.reel, [p], v, H⟩]) = grp (ps ++ [p]) := by
  rw [grp_app, ← h, gadd_new]
  · simp [rgs1]
  · intro e he
    obtain ⟨x, hx, rfl⟩ := List.mem_map.1 he
    exact hn x hx
theorem rs_old {A B : List RE} {x : RE} {ps : List Pl} {p : Pl} {v : Value} {H : HL} (h : rgs1 (A ++ x :: B) = grp ps) (hr : x.r = p.reel) (hn : ∀ e ∈ A, e.r ≠ x.r) : rgs1 (A ++ ⟨x.r, x.l ++ [p], v, H⟩ :: B) = grp (ps ++ [p]) := by
  rw [grp_app, ← h]
  have : rgs1 (A ++ x :: B) = rgs1 A ++ (p.reel, x.l) :: rgs1 B := by simp [rgs1, hr]
  rw [this, gadd_old]
  · simp [rgs1, hr]
  · intro e he
    obtain ⟨y, hy, rfl⟩ := List.mem_map.1 he
    rw [← hr]; exact hn y hy
/-- what is known of a row that is still to be merged -/
def Left (es : Array MapEntry) (t : TypeId) (x : RE) : Prop := mg es (sv x.r) = some x.v ∧ Row t 3 x.v x.l.length (pls x.l) x.H ∧ x.l ≠ [] ∧ ∀ p ∈ x.l, p.reel = x.r
theorem left_all {P : Program} {t : TypeId} {es : Array MapEntry} {clk : Nat} {rs : List RE} {ps : List Pl} (hf : FamOK P t es clk rs) (h : rgs1 rs = grp ps) : ∀ x ∈ rs, Left es t x := by
  intro x hx
  refine ⟨?_, hf.row x hx, (rs_ok h hx).1, (rs_ok h hx).2⟩
  obtain ⟨A, B, rfl⟩ := List.append_of_mem hx
  rw [hf.get, rowOf_some]
  intro y hy hh
  have := rs_nd h
  rw [List.map_append, List.nodup_append] at this
  exact this.2.2 y.r (List.mem_map.2 ⟨y, hy, rfl⟩) x.r (by simp) hh
theorem pick_reel {rl : List RE} {ks : List (List UInt8)} {j : Nat} (h : (rl.map (·.r)).Perm (ks.drop j)) (hj : j < ks.length) :
    ∃ A x B, rl = A ++ x :: B ∧ x.r = ks.getD j [] ∧ ((A ++ B).map (·.r)).Perm (ks.drop (j + 1)) := by
  rw [List.drop_eq_getElem_cons hj] at h
  have h1 : ks[j] ∈ rl.map (·.r) := h.symm.subset (List.mem_cons_self ..)
  obtain ⟨x, hx, hxr⟩ := List.mem_map.1 h1
  obtain ⟨A, B, rfl⟩ := List.append_of_mem hx
  refine ⟨A, x, B, rfl, by rw [hxr, List.getD_eq_getElem?_getD, List.getElem?_eq_getElem hj]; rfl, ?_⟩
  have h2 : ((A ++ x :: B).map (·.r)).Perm (x.r :: (A ++ B).map (·.r)) := by
    rw [List.map_append, List.map_append]
    exact List.perm_middle
  rw [← hxr] at h
  exact List.perm_cons _ |>.1 (h2.symm.trans h)
theorem ks_cell {ks : List (List UInt8)} {j : Nat} {junk : List Value} (hj : j < ks.length) : (ks.map sv ++ junk)[j]? = some (sv (ks.getD j [])) := by
  rw [List.getElem?_append_left (by simpa using hj), List.getElem?_map, List.getElem?_eq_getElem hj, List.getD_eq_getElem?_getD, List.getElem?_eq_getElem hj]; rfl
theorem lst_getD (l : List Pl) : lst (fun i => l.getD i default) l.length = l := by
  unfold lst
  apply List.ext_getElem
  · simp
  · intro i h1 h2
    simp [List.getD_eq_getElem?_getD, List.getElem?_eq_getElem h2]
theorem so_pairwise {lt : Pl → Pl → Bool} {n : Nat} {d : Nat → Pl} (h : So lt 0 n d) : (lst d n).Pairwise (fun x y => lt y x = false) := by
  rw [List.pairwise_iff_getElem]
  intro i j hi hj hij
  rw [lst_len] at hi hj
  have e1 : (lst d n)[i] = d i := by simp [lst]
  have e2 : (lst d n)[j] = d j := by simp [lst]
  rw [e1, e2]
  exact h i j (Nat.zero_le _) hij hj
theorem take_next {α : Type} {l : List α} {i : Nat} {p : α} (h : l[i]? = some p) : l.take (i + 1) = l.take i ++ [p] := by
  rw [List.take_add_one, h]; rfl
theorem mstep_new {out : List Pl} {p : Pl} (h : ∀ m q, out = m ++ [q] → q.reel ≠ p.reel) : mstep out p = out ++ [p] := by
  rcases list_last out with rfl | ⟨m, q, rfl⟩
  · rfl
  · rw [mstep_last, if_neg (fun hh => h m q rfl hh.1)]
/-- the first of a reel is put behind all that is there -/
theorem step_first {G : List RG} {ks : List (List UInt8)} {j : Nat} {p : Pl} (hG : G.map (·.1) = ks.take j) (hown : ∀ g ∈ G, ∀ q ∈ g.2, q.reel = g.1) (hk : ks.Pairwise (· < ·)) (hj : j < ks.length) (hp : p.reel = ks.getD j []) :
    mstep (mrg (G.flatMap (·.2))) p = mrg (G.flatMap (·.2)) ++ [p] := by
  refine mstep_new fun m q hm hr => ?_
  have hne : G.flatMap (·.2) ≠ [] := fun h => by
    rw [h] at hm
    have : mrg [] = [] := rfl
    rw [this] at hm
    simp at hm
  obtain ⟨p', hp', m', q', h1, h2⟩ := mrg_reel' hne
  rw [hm] at h1
  have hq : q = q' := by
    have := congrArg List.getLast? h1
    simpa using this
  obtain ⟨g, hg, hpg⟩ := List.mem_flatMap.1 hp'
  have h3 := hown g hg p' hpg
  have h4 : g.1 ∈ ks.take j := by rw [← hG]; exact List.mem_map.2 ⟨g, hg, rfl⟩
  obtain ⟨i, hi, hie⟩ := List.getElem_of_mem h4
  rw [List.length_take] at hi
  rw [List.getElem_take] at hie
  have h5 := (List.pairwise_iff_getElem.1 hk) i j (by omega) hj (by omega)
  have h6 : ks[j] = ks.getD j [] := by rw [List.getD_eq_getElem?_getD, List.getElem?_eq_getElem hj]; rfl
  rw [hie, ← h3, h6, ← hp, ← hr, hq, h2] at h5
  exact List.lt_irrefl _ h5
theorem pls_last {m : List Pl} {q : Pl} {junk : List Value} : (pls (m ++ [q]) ++ junk)[0 + ((m.length : Nat) : Int).toNat * 3 + 2]? = some (iv q.o) := by
  rw [Nat.zero_add, Int.toNat_natCast]
  exact pls_at (i := m.length) (j := 2) (p := q) (by simp) rfl junk
theorem pls_last0 {m : List Pl} {q : Pl} {junk : List Value} : (pls (m ++ [q]) ++ junk)[0 + ((m.length : Nat) : Int).toNat * 3 + 0]? = some (sv q.reel) := by
  rw [Nat.zero_add, Int.toNat_natCast]
  exact pls_at (i := m.length) (j := 0) (p := q) (by simp) rfl junk
theorem lst_pulls {l : List Ev} {hd : Int} : lst (fun i => (pullsL l hd l.length).getD i default) l.length = pullsL l hd l.length := by
  have := lst_getD (pullsL l hd l.length)
  rw [pullsL_len] at this
  exact this
theorem pulls_Px {l : List Ev} {hd : Int} {n : Nat} (h : ∀ p ∈ pullsL l hd n, PlP p) : ∀ i, PlP ((fun i => (pullsL l hd n).getD i default) i) := fun i => by
  show PlP ((pullsL l hd n).getD i default)
  by_cases h9 : i < (pullsL l hd n).length
  · rw [List.getD_eq_getElem?_getD, List.getElem?_eq_getElem h9]
    exact h _ (List.getElem_mem h9)
  · rw [List.getD_eq_getElem?_getD, List.getElem?_eq_none (by omega)]
    exact ⟨by decide, by decide, by decide⟩
theorem pls_setlast {m : List Pl} {q : Pl} {o : Int} {junk : List Value} : (pls (m ++ [q]) ++ junk).set (0 + ((m.length : Nat) : Int).toNat * 3 + 2) (iv o) = pls (m ++ [⟨q.reel, q.i, o⟩]) ++ junk := by
  rw [Nat.zero_add, Int.toNat_natCast, pls_app, pls_app]
  have h : (pls m).length = m.length * 3 := pls_len m
  rw [List.append_assoc, List.append_assoc, List.set_append, if_neg (by omega), h, show m.length * 3 + 2 - m.length * 3 = 2 by omega]
  rfl
theorem pls_fit {m : List Pl} {q : Pl} {junk : List Value} : 0 + ((m.length : Nat) : Int).toNat * 3 + 2 < (pls (m ++ [q]) ++ junk).length := by
  rw [Int.toNat_natCast, List.length_append, pls_len, List.length_append]
  simp only [List.length_singleton]
  omega
theorem row_setlast {t g n cap : Nat} {m : List Pl} {q : Pl} {o : Int} {junk : List Value} (hn : n = (m ++ [q]).length) (hc : n ≤ cap) (hm : cap ≤ maxLen) (hl : (pls (m ++ [q])).length + junk.length = cap * 3) :
    Row t 3 (.slice (some ⟨g, 0, none⟩) n cap) (m ++ [(⟨q.reel, q.i, o⟩ : Pl)]).length (pls (m ++ [⟨q.reel, q.i, o⟩])) [⟨g, t, pls (m ++ [⟨q.reel, q.i, o⟩]) ++ junk⟩] := by
  have e : (m ++ [(⟨q.reel, q.i, o⟩ : Pl)]).length = n := by rw [hn]; simp
  rw [e]
  refine .own (by rw [pls_len, e]) ?_ hc hm
  rw [pls_len, e]
  rw [pls_len, ← hn] at hl
  exact hl
theorem row_app {t : Nat} {v : Value} {M M' : List Pl} {p : Pl} {H : HL} (h : M' = M ++ [p]) (hr : Row t 3 v (M.length + 1) (pls M ++ plc p) H) : Row t 3 v M'.length (pls M') H := by
  subst h
  rw [pls_app, List.length_append]
  exact hr
theorem row_put {t : Nat} {v : Value} {M M' : List Pl} {H : HL} (h : M' = M) (hr : Row t 3 v M.length (pls M) H) : Row t 3 v M'.length (pls M') H := by rw [h]; exact hr
theorem pulls_P {t : List UInt8} {rate hd : Int} {l : List Ev} (hE : edE t rate l = 0) (h0 : 0 ≤ hd) (h1 : hd ≤ 1000) (hr : ∀ e ∈ l, e.reel.length ≤ maxLen) {n : Nat} (hn : n ≤ l.length) : ∀ p ∈ pullsL l hd n, PlP p := by
  intro p hp
  obtain ⟨k, hk, rfl⟩ := List.mem_map.1 hp
  have hk := List.mem_range.1 hk
  have := pull_ok hE h0 h1 (show k < l.length by omega)
  refine ⟨by omega, by omega, ?_⟩
  exact hr _ (ev_mem (by omega))
theorem perm_drop0 {rs : List RE} : (rs.map (·.r)).Perm ((srtS (rs.map (·.r))).drop 0) := (srtS_perm _).symm
theorem take_key {ks : List (List UInt8)} {G : List RG} {j : Nat} {o : List Pl} (hG : G.map (·.1) = ks.take j) (hj : j < ks.length) : (G ++ [(ks.getD j [], o)]).map (·.1) = ks.take (j + 1) := by
  rw [List.map_append, hG, take_next (p := ks.getD j []) (by rw [List.getD_eq_getElem?_getD, List.getElem?_eq_getElem hj]; rfl)]; rfl
theorem perm_key {G : List RG} {A B : List RE} {x : RE} {o ps : List Pl} {r : List UInt8} (h : (G.flatMap (·.2) ++ (A ++ x :: B).flatMap (·.l)).Perm ps) (ho : x.l.Perm o) : ((G ++ [(r, o)]).flatMap (·.2) ++ (A ++ B).flatMap (·.l)).Perm ps := by
  refine List.Perm.trans ?_ h
  simp only [List.flatMap_append, List.flatMap_cons, List.flatMap_nil, List.append_nil, List.append_assoc]
  refine List.Perm.append_left _ ?_
  refine (ho.symm.append_right _).trans ?_
  rw [← List.append_assoc, ← List.append_assoc]
  exact List.Perm.append_right _ List.perm_append_comm
end Go.Proofs.YtapcgokcfmklbaaDoor

namespace Go.Proofs.YtapcgokcfmklbaaDoor
open Go Go.RowKit Go.Sort

theorem sortS (g cap : Nat) (zs : List (List UInt8)) (junk : List Value) (HR : HL) (W : World) (e : TypeId) (hz : zs.length < 4611686018427387904) : FnH Tryd.prog 106 #[.slice (some ⟨g, 0, none⟩) zs.length cap] W (⟨g, e, zs.map sv ++ junk⟩ :: HR)
    (fun v H => v = .tuple #[] ∧ H = ⟨g, e, (srtS zs).map sv ++ junk⟩ :: HR) := by
  intro w ho
  have hg2 := (ho.blk _ (List.mem_cons_self ..)).2
  refine Calls.mono (Tryd.slices_Sort_string g 0 cap zs w (own_holdsS ho) hg2.lt hz) ?_
  rintro x w' ⟨rfl, n, os, rfl⟩
  exact ⟨_, _, rfl, ho.sortedS (xs := zs.map sv) (by simp [srtS_len]), rfl, rfl⟩
theorem sortS0 (A : Option Addr) (c : Nat) (W : World) : Fn_ Tryd.prog 106 #[.slice A 0 c] W (fun v H => v = .tuple #[] ∧ H = []) := by
  refine Calls.mono (Tryd.slices_Sort_string_none A c W) ?_
  rintro x w' ⟨rfl, rfl⟩
  exact ⟨_, _, rfl, Own.start _, rfl, rfl⟩
theorem cmpS (a b : List UInt8) (W : World) : Fn_ Tryd.prog 112 #[sv a, sv b] W (fun v H => v = iv (Lib.compareBytes a b) ∧ H = []) := by
  refine Calls.mono (Tryd.strings_Compare ⟨a.toArray⟩ ⟨b.toArray⟩ W) ?_
  rintro x w' ⟨rfl, rfl⟩
  exact ⟨_, _, rfl, Own.start _, rfl, rfl⟩
end Go.Proofs.YtapcgokcfmklbaaDoor

namespace Go.Proofs.YtapcgokcfmklbaaDoor
open Go Go.Proofs Go.RowKit

theorem ty86 : tyChk Tryd.prog 86 = some ([.slice none 0 0], false, 24) := by kernel_rfl
theorem fo91_1 : fldOff Tryd.prog 91 1 = some (1, 3) := by kernel_rfl

theorem strK : Go.Maps.Keyed Tryd.prog 9 := Go.Maps.string_keyed Tryd.underlying9
theorem hkey9 {r : List UInt8} (h : r.length ≤ maxLen) : keyOf Tryd.prog 9 (sv r) = some (.string r) := by
  have := WideMaps.keyOf_string_mk (P := Tryd.prog) Tryd.underlying9 (s := ⟨r.toArray⟩) (by rw [bs_size]; exact h)
  simpa using this
theorem z86 : zeroChk Tryd.prog 86 = some (.slice none 0 0) := by kernel_rfl
def srcE (t : List UInt8) (rate : Int) (l : List Ev) (hd : Int) : Int := if edE t rate l ≠ 0 then edE t rate l else if hd < 0 ∨ 1000 < hd then 3 else 0
theorem srcE_bad {t : List UInt8} {rate hd : Int} {l : List Ev} (h : edE t rate l ≠ 0) : srcE t rate l hd = edE t rate l := if_pos h
theorem srcE_rng {t : List UInt8} {rate hd : Int} {l : List Ev} (h : edE t rate l = 0) (h2 : hd < 0 ∨ 1000 < hd) : srcE t rate l hd = 3 := by unfold srcE; rw [if_neg (by rw [h]; decide), if_pos h2]
theorem srcE_ok {t : List UInt8} {rate hd : Int} {l : List Ev} (h : edE t rate l = 0) (h2 : 0 ≤ hd) (h3 : hd ≤ 1000) : srcE t rate l hd = 0 := by unfold srcE; rw [if_neg (by rw [h]; decide), if_neg (by omega)]
/-- what both hand back -/
def SrcR (t : List UInt8) (rate : Int) (l : List Ev) (hd : Int) (v : Value) (H : HL) : Prop :=
  ∃ (vs : Value) (m : List Pl), v = .tuple #[vs, iv (srcE t rate l hd)] ∧ Row 91 3 vs m.length (pls m) H ∧ (srcE t rate l hd ≠ 0 → m = []) ∧ (srcE t rate l hd = 0 → IsM l hd m)
theorem SrcR.bad {t : List UInt8} {rate : Int} {l : List Ev} {hd x : Int} (h : srcE t rate l hd = x) (h0 : x ≠ 0) : SrcR t rate l hd (.tuple #[.slice none 0 0, iv x]) [] :=
  ⟨_, [], by rw [h], .nil, fun _ => rfl, fun h2 => absurd (h.symm.trans h2) h0⟩
theorem SrcR.good {t : List UInt8} {rate : Int} {l : List Ev} {hd : Int} {vs : Value} {H : HL} {m : List Pl} (h : srcE t rate l hd = 0) (hrow : Row 91 3 vs m.length (pls m) H) (hI : IsM l hd m) : SrcR t rate l hd (.tuple #[vs, iv 0]) H :=
  ⟨vs, m, by rw [h], hrow, fun h2 => absurd h h2, fun _ => hI⟩

set_option maxRecDepth 100000 in
theorem cmpI1 (x y : Pl) (W : World) (hx : PlP x) (hy : PlP y) : Fn_ Tryd.prog 108 #[.agg (plc x).toArray, .agg (plc y).toArray] W (fun v H => ∃ r : Int, v = iv r ∧ decide (r < 0) = ltI x y ∧ H = []) := by
  unfold PlP at hx hy
  refine Fn_.intro Tryd.func108 rfl rfl (by rfl) ?_
  refine CS.seq ?_
  refine CS.region ?_
  refine RS.box rfl (by rfl) (by rfl) ?_
  intro g2
  refine RS.box rfl (by rfl) (by rfl) ?_
  intro g3
  refine RS.q rfl (QO.assign) ?_
  refine RS.nil ?_
  refine thenC_n ?_
  refine CS.seq ?_
  refine CS.region ?_
  refine RS.q rfl (QO.fieldAddr fo91_1 (by rfl)) ?_
  first | (refine RS.q rfl (QO.load ty3 (by rfl) (by repeat (first | exact List.Mem.head _ | refine List.Mem.tail _ ?_)) (by rfl)) ?_) | (refine RS.q rfl (QO.loadO ty3 (by rfl) (by assumption)) ?_) | (refine RS.q rfl (QO.load ty3 (by rfl) (by repeat (first | exact List.Mem.head _ | refine List.Mem.tail _ ?_)) (by assumption)) ?_)
  refine RS.q rfl (QO.fieldAddr fo91_1 (by rfl)) ?_
  first | (refine RS.q rfl (QO.load ty3 (by rfl) (by repeat (first | exact List.Mem.head _ | refine List.Mem.tail _ ?_)) (by rfl)) ?_) | (refine RS.q rfl (QO.loadO ty3 (by rfl) (by assumption)) ?_) | (refine RS.q rfl (QO.load ty3 (by rfl) (by repeat (first | exact List.Mem.head _ | refine List.Mem.tail _ ?_)) (by assumption)) ?_)
  first | (refine RS.q rfl (QO.sub (by rfl) (by rfl) (by omega) (by omega)) ?_) | (refine RS.q rfl (QO.ibin (by rfl) (by rfl) trivial) ?_)
  refine RS.q rfl (QO.assign) ?_
  refine RS.nil ?_
  refine thenC_n ?_
  refine CS.ret ?_
  refine retQ.mk (H' := []) (.inr rfl) (RVs.tmp (by rfl) RVs.nil) (List.nil_sublist _) ?_
  exact ⟨x.i - y.i, rfl, (by unfold ltI; exact decide_eq_decide.2 (by omega)), rfl⟩

end Go.Proofs.YtapcgokcfmklbaaDoor
