/-
  Contracts: MattesOpen. Conditions: as each theorem says.
-/
import Derived.Test.YtplfeaikjgfhcaaC8
import Derived.Test.YtplfeaikjgfhcaaMatte
import Derived.Test.YtplfeaikjgfhcaaOps3
namespace Go.Proofs.Ytplfeaikjgfhcaa
open Go Go.Proofs Go.RowKit

theorem ok47 : callOK Try.prog 47 = true := by kernel_rfl

/-- the best of the first k of a row -/
def bst (op : BinOp) (l : List Nat) (k : Nat) : Nat := (l.take k).foldl (fun b v => if fcmpB op v b then v else b) (l.getD 0 0)
theorem bst_0 (op : BinOp) (l : List Nat) : bst op l 0 = l.getD 0 0 := by simp [bst]
theorem bst_1 (op : BinOp) (l : List Nat) (k : Nat) (hk : k < l.length) : bst op l (k + 1) = if fcmpB op (l.getD k 0) (bst op l k) then l.getD k 0 else bst op l k := by
  unfold bst
  rw [List.take_succ_eq_append_getElem hk, List.foldl_append, ← getD_at l k hk]
  rfl
theorem bst_n (op : BinOp) (l : List Nat) : bst op l l.length = bestG op l := by unfold bst bestG; rw [List.take_length]
theorem bst_T {op : BinOp} {l : List Nat} {k : Nat} (hk : k < l.length) (h : fcmpB op (l.getD k 0) (bst op l k) = true) : flt (l.getD k 0) = flt (bst op l (k + 1)) := by rw [bst_1 op l k hk, if_pos h]
theorem bst_F {op : BinOp} {l : List Nat} {k : Nat} (hk : k < l.length) (h : fcmpB op (l.getD k 0) (bst op l k) = false) : flt (bst op l k) = flt (bst op l (k + 1)) := by rw [bst_1 op l k hk, if_neg (by rw [h]; decide)]

set_option maxRecDepth 100000 in
theorem kcheckMatte (x y wi he : Int) (A : Option Addr) (m c : Nat) (W : World) : Fn_ Try.prog 47 #[.agg #[iv x, iv y, iv wi, iv he, .slice A m c]] W (fun v H => v = iv (mErr x y wi he m) ∧ H = []) := by
  refine Fn_.intro Try.func47 rfl rfl (by rfl) ?_
  refine CS.seq ?_
  refine CS.region ?_
  refine RS.box rfl (by rfl) (by rfl) ?_
  intro g1
  refine RS.q rfl (QO.assign) ?_
  refine RS.nil ?_
  refine thenC_n ?_
  refine CS.seq ?_
  refine CS.region ?_
  first | (refine RS.q rfl (QO.loadB ty64 (by rfl) (by repeat (first | exact List.Mem.head _ | refine List.Mem.tail _ ?_)) (by rfl)) ?_) | (refine RS.q rfl (QO.loadA ty64 (by rfl) (by repeat (first | exact List.Mem.head _ | refine List.Mem.tail _ ?_)) (by rfl) (by rfl)) ?_) | (refine RS.q rfl (QO.loadOA ty64 (by rfl) (by assumption) (by rfl)) ?_)
  refine RS.call rfl (by rfl) ok130 (by rfl) (fun w ho => checkMatte _ _ _ _ _ _ _ _) ?_
  rintro _ _ ⟨rfl, rfl⟩
  refine RS.q rfl (QO.assign) ?_
  refine RS.nil ?_
  refine thenC_n ?_
  refine CS.ret ?_
  refine retQ.mk (H' := []) (.inr rfl) (RVs.tmp (by rfl) RVs.nil) (List.nil_sublist _) ?_
  exact ⟨rfl, rfl⟩

set_option maxRecDepth 100000 in
theorem spread1 (g c : Nat) (l : List Nat) (W : World) (hA : FS W (some ⟨g, 0, none⟩) l) (h0 : 0 < l.length) (hm : l.length ≤ maxLen) : Fn_ Try.prog 145 #[.slice (some ⟨g, 0, none⟩) l.length c] W (fun v H => v = flt (bestG .gtr l) ∧ H = []) := by
  unfold maxLen at hm
  obtain ⟨bA, oA, hbo, hcell⟩ : ∃ b o, some (⟨g, 0, none⟩ : Addr) = some ⟨b, o, none⟩ ∧ ∀ i x, l[i]? = some x → W.cell? ⟨b, o + i, none⟩ = some (flt x) := hA h0
  obtain ⟨rfl, rfl⟩ : g = bA ∧ 0 = oA := by injection hbo with hbo; injection hbo with h1 h2; exact ⟨h1, h2⟩
  have hcell0 : ∀ i x, l[i]? = some x → W.cell? ⟨g, i, none⟩ = some (flt x) := fun i x h => by have h9 := hcell i x h; rwa [Nat.zero_add] at h9
  refine Fn_.intro Try.func145 rfl rfl (by rfl) ?_
  refine CS.seq ?_
  refine CS.region ?_
  refine RS.q rfl (QO.assign) ?_
  refine RS.nil ?_
  refine thenC_n ?_
  refine CS.seq ?_
  refine CS.region ?_
  refine RS.q rfl (QO.move) ?_
  first | (refine RS.q rfl (QO.idx0 Try.underlying24 ty33 (by rfl) (by rfl) (by rfl) (by omega)) ?_) | (refine RS.q rfl (QO.idxn Try.underlying24 ty33 (by rfl) (by rfl) (by rfl) (by omega)) ?_) | (refine RS.q rfl (QO.idx1 Try.underlying24 ty33 (by rfl) (by rfl) (by omega) (by omega)) ?_)
  refine RS.qv rfl (QO.loadO ty33 (by rfl) (hcell0 0 _ (List.getElem?_eq_getElem h0))) (congrArg flt ((getD_at l 0 h0).trans (bst_0 .gtr l).symm)) ?_
  refine RS.q rfl (QO.assign) ?_
  refine RS.nil ?_
  refine thenC_n ?_
  refine CS.seq ?_
  refine CS.seq ?_
  refine CS.region ?_
  refine RS.q rfl (QO.move) ?_
  refine RS.q rfl (QO.lenS Try.underlying24 (by rfl)) ?_
  refine RS.q rfl (QO.move) ?_
  refine RS.nil ?_
  refine thenC_n ?_
  refine CS.block ?_
  refine CS.loop (X := Nat) [3, 5, 11, 12, 13, 14, 15, 16, 17, 18, 19] (fun k => [(11, iv (k : Int)), (3, flt (bst .gtr l k))]) (fun k => []) (fun k => k ≤ l.length) (fun k => l.length - k) 0 (Nat.zero_le _) ?_ ?_ ?_
  · exact (by repeat (first | exact kn_nil | refine kn_cons (by rfl) ?_))
  · exact (by repeat (first | exact List.Sublist.refl _ | exact List.nil_sublist _ | refine List.Sublist.cons_cons _ ?_ | refine List.Sublist.cons _ ?_ | exact Sbp.refl | exact Sbp.nil | refine Sbp.cons (by repeat (first | exact Rem.head | apply Rem.tail)) ?_ | exact Sbp.app | refine Sbp.skip ?_))
  · intro k gj3 hz
    refine CS.seq ?_
    refine CS.region ?_
    refine RS.q rfl (QO.lss (by rfl) (by rfl)) ?_
    refine RS.nil ?_
    refine thenC_n ?_
    refine CS.seq ?_
    refine CS.cond (by rfl) (fun hb0 => ?_) (fun hb0 => ?_)
    · have hb0p := of_decide_eq_true hb0
      refine CS.skip ?_
      refine thenC_n ?_
      refine CS.seq ?_
      refine CS.block ?_
      refine CS.seq ?_
      refine CS.region ?_
      first | (refine RS.q rfl (QO.idx0 Try.underlying24 ty33 (by rfl) (by rfl) (by rfl) (by omega)) ?_) | (refine RS.q rfl (QO.idxn Try.underlying24 ty33 (by rfl) (by rfl) (by rfl) (by omega)) ?_) | (refine RS.q rfl (QO.idx1 Try.underlying24 ty33 (by rfl) (by rfl) (by omega) (by omega)) ?_)
      refine RS.qv rfl (QO.loadO ty33 (by rfl) (hcell0 k _ (List.getElem?_eq_getElem (show k < l.length by omega)))) (congrArg flt (getD_at l k (by omega))) ?_
      refine RS.q rfl (QO.assign) ?_
      refine RS.nil ?_
      refine thenC_n ?_
      refine CS.seq ?_
      refine CS.region ?_
      refine RS.q rfl (QO.move) ?_
      refine RS.q rfl (QO.move) ?_
      refine RS.q rfl (QO.fcmp32 (by rfl) (by rfl) (by simp)) ?_
      refine RS.nil ?_
      refine thenC_n ?_
      refine CS.cond (by rfl) (fun hb1 => ?_) (fun hb1 => ?_)
      · refine CS.region ?_
        refine RS.q rfl (QO.move) ?_
        refine RS.q rfl (QO.assign) ?_
        refine RS.nil ?_
        refine blockC_n ?_
        refine thenC_n ?_
        refine CS.region ?_
        first | (refine RS.q rfl (QO.add (by rfl) (by rfl) (by omega) (by omega)) ?_) | (refine RS.q rfl (QO.ibin (by rfl) (by rfl) trivial) ?_)
        refine RS.q rfl (QO.move) ?_
        refine RS.nil ?_
        refine loopQ_n (by intro t ht; repeat (first | with_reducible exact rfl | exact frame_puts ht (frame_mix ht) _ rfl | (refine frame_put rfl ht ?_) | (refine frame_puts ht ?_ _ rfl) | exact frame_mix ht | (refine frame_mix2 rfl ht ?_) | exact rfl)) ?_
        exact ⟨k + 1, by omega, by omega, kn_cons (by rfl) (kn_cons (bst_T (by omega) hb1) kn_nil), (by repeat (first | exact List.Sublist.refl _ | exact List.nil_sublist _ | refine List.Sublist.cons_cons _ ?_ | refine List.Sublist.cons _ ?_ | exact Sbp.refl | exact Sbp.nil | refine Sbp.cons (by repeat (first | exact Rem.head | apply Rem.tail)) ?_ | exact Sbp.app | refine Sbp.skip ?_))⟩
      · refine CS.skip ?_
        refine blockC_n ?_
        refine thenC_n ?_
        refine CS.region ?_
        first | (refine RS.q rfl (QO.add (by rfl) (by rfl) (by omega) (by omega)) ?_) | (refine RS.q rfl (QO.ibin (by rfl) (by rfl) trivial) ?_)
        refine RS.q rfl (QO.move) ?_
        refine RS.nil ?_
        refine loopQ_n (by intro t ht; repeat (first | with_reducible exact rfl | exact frame_puts ht (frame_mix ht) _ rfl | (refine frame_put rfl ht ?_) | (refine frame_puts ht ?_ _ rfl) | exact frame_mix ht | (refine frame_mix2 rfl ht ?_) | exact rfl)) ?_
        exact ⟨k + 1, by omega, by omega, kn_cons (by rfl) (kn_cons (bst_F (by omega) hb1) kn_nil), (by repeat (first | exact List.Sublist.refl _ | exact List.nil_sublist _ | refine List.Sublist.cons_cons _ ?_ | refine List.Sublist.cons _ ?_ | exact Sbp.refl | exact Sbp.nil | refine Sbp.cons (by repeat (first | exact Rem.head | apply Rem.tail)) ?_ | exact Sbp.app | refine Sbp.skip ?_))⟩
    · have hb0p := of_decide_eq_false hb0
      refine CS.exit ?_
      refine thenC_x ?_
      refine loopQ_x ?_
      refine blockC_x ?_
      refine thenC_n ?_
      refine CS.seq ?_
      refine CS.region ?_
      refine RS.q rfl (QO.move) ?_
      refine RS.q rfl (QO.assign) ?_
      refine RS.nil ?_
      refine thenC_n ?_
      refine CS.ret ?_
      refine retQ.mk (H' := []) (.inr rfl) (RVs.tmp (by rfl) RVs.nil) (List.nil_sublist _) ?_
      obtain rfl : k = l.length := by omega
      exact ⟨congrArg flt (bst_n .gtr l), rfl⟩

set_option maxRecDepth 100000 in
theorem shrink1 (g c : Nat) (l : List Nat) (W : World) (hA : FS W (some ⟨g, 0, none⟩) l) (h0 : 0 < l.length) (hm : l.length ≤ maxLen) : Fn_ Try.prog 144 #[.slice (some ⟨g, 0, none⟩) l.length c] W (fun v H => v = flt (bestG .lss l) ∧ H = []) := by
  unfold maxLen at hm
  obtain ⟨bA, oA, hbo, hcell⟩ : ∃ b o, some (⟨g, 0, none⟩ : Addr) = some ⟨b, o, none⟩ ∧ ∀ i x, l[i]? = some x → W.cell? ⟨b, o + i, none⟩ = some (flt x) := hA h0
  obtain ⟨rfl, rfl⟩ : g = bA ∧ 0 = oA := by injection hbo with hbo; injection hbo with h1 h2; exact ⟨h1, h2⟩
  have hcell0 : ∀ i x, l[i]? = some x → W.cell? ⟨g, i, none⟩ = some (flt x) := fun i x h => by have h9 := hcell i x h; rwa [Nat.zero_add] at h9
  refine Fn_.intro Try.func144 rfl rfl (by rfl) ?_
  refine CS.seq ?_
  refine CS.region ?_
  refine RS.q rfl (QO.assign) ?_
  refine RS.nil ?_
  refine thenC_n ?_
  refine CS.seq ?_
  refine CS.region ?_
  refine RS.q rfl (QO.move) ?_
  first | (refine RS.q rfl (QO.idx0 Try.underlying24 ty33 (by rfl) (by rfl) (by rfl) (by omega)) ?_) | (refine RS.q rfl (QO.idxn Try.underlying24 ty33 (by rfl) (by rfl) (by rfl) (by omega)) ?_) | (refine RS.q rfl (QO.idx1 Try.underlying24 ty33 (by rfl) (by rfl) (by omega) (by omega)) ?_)
  refine RS.qv rfl (QO.loadO ty33 (by rfl) (hcell0 0 _ (List.getElem?_eq_getElem h0))) (congrArg flt ((getD_at l 0 h0).trans (bst_0 .lss l).symm)) ?_
  refine RS.q rfl (QO.assign) ?_
  refine RS.nil ?_
  refine thenC_n ?_
  refine CS.seq ?_
  refine CS.seq ?_
  refine CS.region ?_
  refine RS.q rfl (QO.move) ?_
  refine RS.q rfl (QO.lenS Try.underlying24 (by rfl)) ?_
  refine RS.q rfl (QO.move) ?_
  refine RS.nil ?_
  refine thenC_n ?_
  refine CS.block ?_
  refine CS.loop (X := Nat) [3, 5, 11, 12, 13, 14, 15, 16, 17, 18, 19] (fun k => [(11, iv (k : Int)), (3, flt (bst .lss l k))]) (fun k => []) (fun k => k ≤ l.length) (fun k => l.length - k) 0 (Nat.zero_le _) ?_ ?_ ?_
  · exact (by repeat (first | exact kn_nil | refine kn_cons (by rfl) ?_))
  · exact (by repeat (first | exact List.Sublist.refl _ | exact List.nil_sublist _ | refine List.Sublist.cons_cons _ ?_ | refine List.Sublist.cons _ ?_ | exact Sbp.refl | exact Sbp.nil | refine Sbp.cons (by repeat (first | exact Rem.head | apply Rem.tail)) ?_ | exact Sbp.app | refine Sbp.skip ?_))
  · intro k gj3 hz
    refine CS.seq ?_
    refine CS.region ?_
    refine RS.q rfl (QO.lss (by rfl) (by rfl)) ?_
    refine RS.nil ?_
    refine thenC_n ?_
    refine CS.seq ?_
    refine CS.cond (by rfl) (fun hb0 => ?_) (fun hb0 => ?_)
    · have hb0p := of_decide_eq_true hb0
      refine CS.skip ?_
      refine thenC_n ?_
      refine CS.seq ?_
      refine CS.block ?_
      refine CS.seq ?_
      refine CS.region ?_
      first | (refine RS.q rfl (QO.idx0 Try.underlying24 ty33 (by rfl) (by rfl) (by rfl) (by omega)) ?_) | (refine RS.q rfl (QO.idxn Try.underlying24 ty33 (by rfl) (by rfl) (by rfl) (by omega)) ?_) | (refine RS.q rfl (QO.idx1 Try.underlying24 ty33 (by rfl) (by rfl) (by omega) (by omega)) ?_)
      refine RS.qv rfl (QO.loadO ty33 (by rfl) (hcell0 k _ (List.getElem?_eq_getElem (show k < l.length by omega)))) (congrArg flt (getD_at l k (by omega))) ?_
      refine RS.q rfl (QO.assign) ?_
      refine RS.nil ?_
      refine thenC_n ?_
      refine CS.seq ?_
      refine CS.region ?_
      refine RS.q rfl (QO.move) ?_
      refine RS.q rfl (QO.move) ?_
      refine RS.q rfl (QO.fcmp32 (by rfl) (by rfl) (by simp)) ?_
      refine RS.nil ?_
      refine thenC_n ?_
      refine CS.cond (by rfl) (fun hb1 => ?_) (fun hb1 => ?_)
      · refine CS.region ?_
        refine RS.q rfl (QO.move) ?_
        refine RS.q rfl (QO.assign) ?_
        refine RS.nil ?_
        refine blockC_n ?_
        refine thenC_n ?_
        refine CS.region ?_
        first | (refine RS.q rfl (QO.add (by rfl) (by rfl) (by omega) (by omega)) ?_) | (refine RS.q rfl (QO.ibin (by rfl) (by rfl) trivial) ?_)
        refine RS.q rfl (QO.move) ?_
        refine RS.nil ?_
        refine loopQ_n (by intro t ht; repeat (first | with_reducible exact rfl | exact frame_puts ht (frame_mix ht) _ rfl | (refine frame_put rfl ht ?_) | (refine frame_puts ht ?_ _ rfl) | exact frame_mix ht | (refine frame_mix2 rfl ht ?_) | exact rfl)) ?_
        exact ⟨k + 1, by omega, by omega, kn_cons (by rfl) (kn_cons (bst_T (by omega) hb1) kn_nil), (by repeat (first | exact List.Sublist.refl _ | exact List.nil_sublist _ | refine List.Sublist.cons_cons _ ?_ | refine List.Sublist.cons _ ?_ | exact Sbp.refl | exact Sbp.nil | refine Sbp.cons (by repeat (first | exact Rem.head | apply Rem.tail)) ?_ | exact Sbp.app | refine Sbp.skip ?_))⟩
      · refine CS.skip ?_
        refine blockC_n ?_
        refine thenC_n ?_
        refine CS.region ?_
        first | (refine RS.q rfl (QO.add (by rfl) (by rfl) (by omega) (by omega)) ?_) | (refine RS.q rfl (QO.ibin (by rfl) (by rfl) trivial) ?_)
        refine RS.q rfl (QO.move) ?_
        refine RS.nil ?_
        refine loopQ_n (by intro t ht; repeat (first | with_reducible exact rfl | exact frame_puts ht (frame_mix ht) _ rfl | (refine frame_put rfl ht ?_) | (refine frame_puts ht ?_ _ rfl) | exact frame_mix ht | (refine frame_mix2 rfl ht ?_) | exact rfl)) ?_
        exact ⟨k + 1, by omega, by omega, kn_cons (by rfl) (kn_cons (bst_F (by omega) hb1) kn_nil), (by repeat (first | exact List.Sublist.refl _ | exact List.nil_sublist _ | refine List.Sublist.cons_cons _ ?_ | refine List.Sublist.cons _ ?_ | exact Sbp.refl | exact Sbp.nil | refine Sbp.cons (by repeat (first | exact Rem.head | apply Rem.tail)) ?_ | exact Sbp.app | refine Sbp.skip ?_))⟩
    · have hb0p := of_decide_eq_false hb0
      refine CS.exit ?_
      refine thenC_x ?_
      refine loopQ_x ?_
      refine blockC_x ?_
      refine thenC_n ?_
      refine CS.seq ?_
      refine CS.region ?_
      refine RS.q rfl (QO.move) ?_
      refine RS.q rfl (QO.assign) ?_
      refine RS.nil ?_
      refine thenC_n ?_
      refine CS.ret ?_
      refine retQ.mk (H' := []) (.inr rfl) (RVs.tmp (by rfl) RVs.nil) (List.nil_sublist _) ?_
      obtain rfl : k = l.length := by omega
      exact ⟨congrArg flt (bst_n .lss l), rfl⟩

set_option maxRecDepth 100000 in
theorem invert (X Y : Int) (a b : Nat) (A : Option Addr) (n c : Nat) (xs : List Nat) (W : World) (hn : xs.length = n) (hA : FS W A xs) (hN : n = a * b) (hc : n ≤ c) (hcm : c ≤ maxLen) (hre : mErr X Y a b n = 0) (hX : -1048576 ≤ X ∧ X ≤ 1048576) (hY : -1048576 ≤ Y ∧ Y ≤ 1048576) (ha : 1 ≤ a ∧ a ≤ 256) (hb : 1 ≤ b ∧ b ≤ 256) : Fn_ Try.prog 58 #[.agg #[iv X, iv Y, iv (a : Int), iv (b : Int), .slice A n c]] W (fun v H => ∃ g, v = .tuple #[.agg #[iv X, iv Y, iv (a : Int), iv (b : Int), .slice (some ⟨g, 0, none⟩) n n], iv 0] ∧ H = [⟨g, 33, ((List.range n).map (fun i => fo .sub 1065353216 (xs.getD i 0))).map flt⟩]) := by
  have hpos := Nat.mul_le_mul ha.1 hb.1
  have hup := Nat.mul_le_mul ha.2 hb.2
  have hcm2 : c ≤ 9223372036854775807 := hcm
  obtain ⟨bA, oA, rfl, hcell⟩ := hA (by omega)
  refine Fn_.intro Try.func58 rfl rfl (by rfl) ?_
  refine CS.seq ?_
  refine CS.region ?_
  refine RS.box rfl (by rfl) (by rfl) ?_
  intro g1
  refine RS.alloc rfl ty64 ?_
  intro g2
  refine RS.q rfl (QO.assign) ?_
  refine RS.nil ?_
  refine thenC_n ?_
  refine CS.seq ?_
  refine CS.seq ?_
  refine CS.region ?_
  first | (refine RS.q rfl (QO.loadB ty64 (by rfl) (by repeat (first | exact List.Mem.head _ | refine List.Mem.tail _ ?_)) (by rfl)) ?_) | (refine RS.q rfl (QO.loadA ty64 (by rfl) (by repeat (first | exact List.Mem.head _ | refine List.Mem.tail _ ?_)) (by rfl) (by rfl)) ?_) | (refine RS.q rfl (QO.loadOA ty64 (by rfl) (by assumption) (by rfl)) ?_)
  refine RS.call rfl (by rfl) ok47 (by rfl) (fun w ho => kcheckMatte _ _ _ _ _ _ _ _) ?_
  rintro _ _ ⟨rfl, rfl⟩
  refine RS.q rfl (QO.assign) ?_
  refine RS.nil ?_
  refine thenC_n ?_
  refine CS.seq ?_
  refine CS.region ?_
  refine RS.q rfl (QO.move) ?_
  refine RS.qv rfl (QO.neq (by rfl) (by rfl)) (congrArg Value.bool (show (mErr X Y (a : Int) (b : Int) n != 0) = false from by rw [hre]; rfl)) ?_
  refine RS.nil ?_
  refine thenC_n ?_
  refine CS.condF (by rfl) rfl ?_
  refine CS.skip ?_
  refine thenC_n ?_
  refine CS.cut (X := Nat × Nat) [5, 14, 15, 16, 17, 18, 19, 20] (fun z => [(5, .pointer (some ⟨z.1, 0, none⟩))]) (fun z => [⟨z.1, 64, [iv X, iv Y, iv (a : Int), iv (b : Int), .slice (some ⟨z.2, 0, none⟩) n n]⟩, ⟨z.2, 33, partL (fun i => fo .sub 1065353216 (xs.getD i 0)) n 0⟩, ⟨g2, 64, [iv 0, iv 0, iv 0, iv 0, .slice none 0 0]⟩, ⟨g1, 64, [iv X, iv Y, iv (a : Int), iv (b : Int), .slice (some ⟨bA, oA, none⟩) n c]⟩]) (fun z => True) ?_ ?_
  · refine CS.draw 8 rfl (by kernel_rfl) (by kernel_rfl) ?_
    refine RT.take (i := 0) rfl (by kernel_rfl) rfl (QO.fieldAddr fo64_0 (by rfl)) ?_
    first | (refine RT.take (i := 1) rfl (by kernel_rfl) rfl (QO.loadB ty23 (by rfl) (by repeat (first | exact List.Mem.head _ | refine List.Mem.tail _ ?_)) (by rfl)) ?_) | (refine RT.take (i := 1) rfl (by kernel_rfl) rfl (QO.loadA ty23 (by rfl) (by repeat (first | exact List.Mem.head _ | refine List.Mem.tail _ ?_)) (by rfl) (by rfl)) ?_) | (refine RT.take (i := 1) rfl (by kernel_rfl) rfl (QO.loadOA ty23 (by rfl) (by assumption) (by rfl)) ?_)
    refine RT.take (i := 2) rfl (by kernel_rfl) rfl (QO.fieldAddr fo64_1 (by rfl)) ?_
    first | (refine RT.take (i := 3) rfl (by kernel_rfl) rfl (QO.load ty24 (by rfl) (by repeat (first | exact List.Mem.head _ | refine List.Mem.tail _ ?_)) (by rfl)) ?_) | (refine RT.take (i := 3) rfl (by kernel_rfl) rfl (QO.loadO ty24 (by rfl) (by assumption)) ?_) | (refine RT.take (i := 3) rfl (by kernel_rfl) rfl (QO.load ty24 (by rfl) (by repeat (first | exact List.Mem.head _ | refine List.Mem.tail _ ?_)) (by assumption)) ?_)
    refine RT.take (i := 4) rfl (by kernel_rfl) rfl (QO.lenS Try.underlying24 (by rfl)) ?_
    refine RT.two (i := 5) (j := 7) (by kernel_rfl) rfl rfl ?_ ?_
    · refine RS.make rfl Try.underlying24 ty33 (by rfl) (by rfl) (by omega) (by omega) (by omega) (by omega) ?_
      intro g19
      refine RS.nil ⟨(by repeat (first | exact List.Sublist.refl _ | exact List.nil_sublist _ | refine List.Sublist.cons_cons _ ?_ | refine List.Sublist.cons _ ?_ | exact Sbp.refl | exact Sbp.nil | refine Sbp.cons (by repeat (first | exact Rem.head | apply Rem.tail)) ?_ | exact Sbp.app | refine Sbp.skip ?_)), ?_⟩
      refine RT.take (i := 6) rfl (by kernel_rfl) rfl (QO.build ty64 pl64 (by rfl)) ?_
      refine RT.one (i := 7) (by kernel_rfl) rfl rfl ?_
      refine RS.alloc rfl ty64 ?_
      intro g5
      refine RS.nil ⟨(by repeat (first | exact List.Sublist.refl _ | exact List.nil_sublist _ | refine List.Sublist.cons_cons _ ?_ | refine List.Sublist.cons _ ?_ | exact Sbp.refl | exact Sbp.nil | refine Sbp.cons (by repeat (first | exact Rem.head | apply Rem.tail)) ?_ | exact Sbp.app | refine Sbp.skip ?_)), ?_⟩
      refine RT.tail (i := 8) (by kernel_rfl) rfl rfl ?_
      first | refine RS.storeB ty64 (by rfl) (by rfl) (by rfl) (by rfl) (by rfl) (by repeat (first | exact Upd.head | apply Upd.tail)) (by rfl) ?_ | refine RS.storeP ty64 (by rfl) (by rfl) (by rfl) (by rfl) (by rfl) (by repeat (first | exact Upd.head | apply Upd.tail)) (by rfl) ?_
      refine RS.nil ?_
      refine RT.done (by kernel_rfl) ?_
      refine cutQ_n (by intro t ht; repeat (first | with_reducible exact rfl | exact frame_puts ht (frame_mix ht) _ rfl | (refine frame_put rfl ht ?_) | (refine frame_puts ht ?_ _ rfl) | exact frame_mix ht | (refine frame_mix2 rfl ht ?_) | exact rfl)) ?_
      exact ⟨(g5, g19), trivial, (by repeat (first | exact kn_nil | refine kn_cons (by rfl) ?_)), (by rw [partL_zero]; exact (by repeat (first | exact List.Sublist.refl _ | exact List.nil_sublist _ | refine List.Sublist.cons_cons _ ?_ | refine List.Sublist.cons _ ?_ | exact Sbp.refl | exact Sbp.nil | refine Sbp.cons (by repeat (first | exact Rem.head | apply Rem.tail)) ?_ | exact Sbp.app | refine Sbp.skip ?_)))⟩
    · refine RS.alloc rfl ty64 ?_
      intro g5
      refine RS.nil ⟨(by repeat (first | exact List.Sublist.refl _ | exact List.nil_sublist _ | refine List.Sublist.cons_cons _ ?_ | refine List.Sublist.cons _ ?_ | exact Sbp.refl | exact Sbp.nil | refine Sbp.cons (by repeat (first | exact Rem.head | apply Rem.tail)) ?_ | exact Sbp.app | refine Sbp.skip ?_)), ?_⟩
      refine RT.one (i := 5) (by kernel_rfl) rfl rfl ?_
      refine RS.make rfl Try.underlying24 ty33 (by rfl) (by rfl) (by omega) (by omega) (by omega) (by omega) ?_
      intro g19
      refine RS.nil ⟨(by repeat (first | exact List.Sublist.refl _ | exact List.nil_sublist _ | refine List.Sublist.cons_cons _ ?_ | refine List.Sublist.cons _ ?_ | exact Sbp.refl | exact Sbp.nil | refine Sbp.cons (by repeat (first | exact Rem.head | apply Rem.tail)) ?_ | exact Sbp.app | refine Sbp.skip ?_)), ?_⟩
      refine RT.take (i := 6) rfl (by kernel_rfl) rfl (QO.build ty64 pl64 (by rfl)) ?_
      refine RT.tail (i := 8) (by kernel_rfl) rfl rfl ?_
      first | refine RS.storeB ty64 (by rfl) (by rfl) (by rfl) (by rfl) (by rfl) (by repeat (first | exact Upd.head | apply Upd.tail)) (by rfl) ?_ | refine RS.storeP ty64 (by rfl) (by rfl) (by rfl) (by rfl) (by rfl) (by repeat (first | exact Upd.head | apply Upd.tail)) (by rfl) ?_
      refine RS.nil ?_
      refine RT.done (by kernel_rfl) ?_
      refine cutQ_n (by intro t ht; repeat (first | with_reducible exact rfl | exact frame_puts ht (frame_mix ht) _ rfl | (refine frame_put rfl ht ?_) | (refine frame_puts ht ?_ _ rfl) | exact frame_mix ht | (refine frame_mix2 rfl ht ?_) | exact rfl)) ?_
      exact ⟨(g5, g19), trivial, (by repeat (first | exact kn_nil | refine kn_cons (by rfl) ?_)), (by rw [partL_zero]; exact (by repeat (first | exact List.Sublist.refl _ | exact List.nil_sublist _ | refine List.Sublist.cons_cons _ ?_ | refine List.Sublist.cons _ ?_ | exact Sbp.refl | exact Sbp.nil | refine Sbp.cons (by repeat (first | exact Rem.head | apply Rem.tail)) ?_ | exact Sbp.app | refine Sbp.skip ?_)))⟩
  · intro z gj hz
    obtain ⟨g, gm⟩ := z
    show CS _ _ _ _ _ (puts (mix _ _ _) [(5, .pointer (some ⟨g, 0, none⟩))]) ([⟨g, 64, [iv X, iv Y, iv (a : Int), iv (b : Int), .slice (some ⟨gm, 0, none⟩) n n]⟩, ⟨gm, 33, partL (fun i => fo .sub 1065353216 (xs.getD i 0)) n 0⟩, ⟨g2, 64, [iv 0, iv 0, iv 0, iv 0, .slice none 0 0]⟩, ⟨g1, 64, [iv X, iv Y, iv (a : Int), iv (b : Int), .slice (some ⟨bA, oA, none⟩) n c]⟩])
    refine CS.seq ?_
    refine CS.seq ?_
    refine CS.region ?_
    refine RS.q rfl (QO.fieldAddr fo64_1 (by rfl)) ?_
    first | (refine RS.q rfl (QO.load ty24 (by rfl) (by repeat (first | exact List.Mem.head _ | refine List.Mem.tail _ ?_)) (by rfl)) ?_) | (refine RS.q rfl (QO.loadO ty24 (by rfl) (by assumption)) ?_) | (refine RS.q rfl (QO.load ty24 (by rfl) (by repeat (first | exact List.Mem.head _ | refine List.Mem.tail _ ?_)) (by assumption)) ?_)
    refine RS.q rfl (QO.lenS Try.underlying24 (by rfl)) ?_
    refine RS.q rfl (QO.move) ?_
    refine RS.nil ?_
    refine thenC_n ?_
    refine CS.block ?_
    refine CS.loop (X := Nat) (6 :: 7 :: 24 :: 25 :: 26 :: 27 :: 28 :: 29 :: 30 :: 31 :: 32 :: 33 :: 34 :: 35 :: 36 :: []) (fun k => [(24, iv (k : Int))]) (fun k => [⟨g, 64, [iv X, iv Y, iv (a : Int), iv (b : Int), .slice (some ⟨gm, 0, none⟩) n n]⟩, ⟨gm, 33, partL (fun i => fo .sub 1065353216 (xs.getD i 0)) n k⟩, ⟨g2, 64, [iv 0, iv 0, iv 0, iv 0, .slice none 0 0]⟩, ⟨g1, 64, [iv X, iv Y, iv (a : Int), iv (b : Int), .slice (some ⟨bA, oA, none⟩) n c]⟩]) (fun k => k ≤ n) (fun k => n - k) 0 (Nat.zero_le _) ?_ ?_ ?_
    · exact (by repeat (first | exact kn_nil | refine kn_cons (by rfl) ?_))
    · exact (by repeat (first | exact List.Sublist.refl _ | exact List.nil_sublist _ | refine List.Sublist.cons_cons _ ?_ | refine List.Sublist.cons _ ?_ | exact Sbp.refl | exact Sbp.nil | refine Sbp.cons (by repeat (first | exact Rem.head | apply Rem.tail)) ?_ | exact Sbp.app | refine Sbp.skip ?_))
    · intro k gj6 hz
      refine CS.seq ?_
      refine CS.region ?_
      refine RS.q rfl (QO.lss (by rfl) (by rfl)) ?_
      refine RS.nil ?_
      refine thenC_n ?_
      refine CS.seq ?_
      refine CS.cond (by rfl) (fun hb0 => ?_) (fun hb0 => ?_)
      · have hb0p := of_decide_eq_true hb0
        refine CS.skip ?_
        refine thenC_n ?_
        refine CS.seq ?_
        refine CS.block ?_
        refine CS.seq ?_
        refine CS.region ?_
        refine RS.q rfl (QO.move) ?_
        first | (refine RS.q rfl (QO.idx0 Try.underlying24 ty33 (by rfl) (by rfl) (by rfl) (by omega)) ?_) | (refine RS.q rfl (QO.idxn Try.underlying24 ty33 (by rfl) (by rfl) (by rfl) (by omega)) ?_) | (refine RS.q rfl (QO.idx1 Try.underlying24 ty33 (by rfl) (by rfl) (by omega) (by omega)) ?_)
        refine RS.q rfl (QO.loadO ty33 (by rfl) (hcell k _ (List.getElem?_eq_getElem (show k < xs.length by omega)))) ?_
        refine RS.q rfl (QO.assign) ?_
        refine RS.q rfl (QO.assign) ?_
        refine RS.nil ?_
        refine thenC_n ?_
        refine CS.draw 7 rfl (by kernel_rfl) (by kernel_rfl) ?_
        refine RT.take (i := 0) rfl (by kernel_rfl) rfl (QO.fieldAddr fo64_1 (by rfl)) ?_
        first | (refine RT.take (i := 1) rfl (by kernel_rfl) rfl (QO.load ty24 (by rfl) (by repeat (first | exact List.Mem.head _ | refine List.Mem.tail _ ?_)) (by rfl)) ?_) | (refine RT.take (i := 1) rfl (by kernel_rfl) rfl (QO.loadO ty24 (by rfl) (by assumption)) ?_) | (refine RT.take (i := 1) rfl (by kernel_rfl) rfl (QO.load ty24 (by rfl) (by repeat (first | exact List.Mem.head _ | refine List.Mem.tail _ ?_)) (by assumption)) ?_)
        refine RT.take (i := 2) rfl (by kernel_rfl) rfl (QO.move) ?_
        refine RT.take (i := 3) rfl (by kernel_rfl) rfl (QO.move) ?_
        refine RT.one (i := 4) (by kernel_rfl) rfl rfl ?_
        refine RS.farith rfl (by rfl) (by rfl) (by simp) ?_
        intro r33 hr33
        refine RS.nil ⟨(by repeat (first | exact List.Sublist.refl _ | exact List.nil_sublist _ | refine List.Sublist.cons_cons _ ?_ | refine List.Sublist.cons _ ?_ | exact Sbp.refl | exact Sbp.nil | refine Sbp.cons (by repeat (first | exact Rem.head | apply Rem.tail)) ?_ | exact Sbp.app | refine Sbp.skip ?_)), ?_⟩
        refine RT.one (i := 5) (by kernel_rfl) rfl rfl ?_
        refine RS.call rfl (by rfl) ok117 (by rfl) (fun w ho => clean _ _) ?_
        rintro _ _ ⟨rfl, rfl⟩
        refine RS.nil ⟨(by repeat (first | exact List.Sublist.refl _ | exact List.nil_sublist _ | refine List.Sublist.cons_cons _ ?_ | refine List.Sublist.cons _ ?_ | exact Sbp.refl | exact Sbp.nil | refine Sbp.cons (by repeat (first | exact Rem.head | apply Rem.tail)) ?_ | exact Sbp.app | refine Sbp.skip ?_)), ?_⟩
        first | (refine RT.take (i := 6) rfl (by kernel_rfl) rfl (QO.idx0 Try.underlying24 ty33 (by rfl) (by rfl) (by rfl) (by omega)) ?_) | (refine RT.take (i := 6) rfl (by kernel_rfl) rfl (QO.idxn Try.underlying24 ty33 (by rfl) (by rfl) (by rfl) (by omega)) ?_) | (refine RT.take (i := 6) rfl (by kernel_rfl) rfl (QO.idx1 Try.underlying24 ty33 (by rfl) (by rfl) (by omega) (by omega)) ?_)
        refine RT.tail (i := 7) (by kernel_rfl) rfl rfl ?_
        refine RS.store1e ty33 rfl (by rfl) (by rfl) (by rfl) (partL_set (fun i => fo .sub 1065353216 (xs.getD i 0)) n k _ (by have h9 := FR.cl hr33; rw [getD_at] at h9; exact h9) (by omega)) (by repeat (first | exact Upd.head | apply Upd.tail)) (by rw [partL_len]; omega) ?_
        refine RS.nil ?_
        refine RT.done (by kernel_rfl) ?_
        refine blockC_n ?_
        refine thenC_n ?_
        refine CS.region ?_
        first | (refine RS.q rfl (QO.add (by rfl) (by rfl) (by omega) (by omega)) ?_) | (refine RS.q rfl (QO.ibin (by rfl) (by rfl) trivial) ?_)
        refine RS.q rfl (QO.move) ?_
        refine RS.nil ?_
        refine loopQ_n (by intro t ht; repeat (first | with_reducible exact rfl | exact frame_puts ht (frame_mix ht) _ rfl | (refine frame_put rfl ht ?_) | (refine frame_puts ht ?_ _ rfl) | exact frame_mix ht | (refine frame_mix2 rfl ht ?_) | exact rfl)) ?_
        exact ⟨k + 1, by omega, by omega, (by repeat (first | exact kn_nil | refine kn_cons (by rfl) ?_)), (by repeat (first | exact List.Sublist.refl _ | exact List.nil_sublist _ | refine List.Sublist.cons_cons _ ?_ | refine List.Sublist.cons _ ?_ | exact Sbp.refl | exact Sbp.nil | refine Sbp.cons (by repeat (first | exact Rem.head | apply Rem.tail)) ?_ | exact Sbp.app | refine Sbp.skip ?_))⟩
      · have hb0p := of_decide_eq_false hb0
        refine CS.exit ?_
        refine thenC_x ?_
        refine loopQ_x ?_
        refine blockC_x ?_
        refine thenC_n ?_
        refine CS.seq ?_
        refine CS.region ?_
        first | (refine RS.q rfl (QO.loadB ty64 (by rfl) (by repeat (first | exact List.Mem.head _ | refine List.Mem.tail _ ?_)) (by rfl)) ?_) | (refine RS.q rfl (QO.loadA ty64 (by rfl) (by repeat (first | exact List.Mem.head _ | refine List.Mem.tail _ ?_)) (by rfl) (by rfl)) ?_) | (refine RS.q rfl (QO.loadOA ty64 (by rfl) (by assumption) (by rfl)) ?_)
        first | refine RS.storeB ty64 (by rfl) (by rfl) (by rfl) (by rfl) (by rfl) (by repeat (first | exact Upd.head | apply Upd.tail)) (by rfl) ?_ | refine RS.storeP ty64 (by rfl) (by rfl) (by rfl) (by rfl) (by rfl) (by repeat (first | exact Upd.head | apply Upd.tail)) (by rfl) ?_
        refine RS.q rfl (QO.assign) ?_
        refine RS.nil ?_
        refine thenC_n ?_
        refine CS.ret ?_
        refine retQ.mk (H' := [⟨gm, 33, ((List.range n).map (fun i => fo .sub 1065353216 (xs.getD i 0))).map flt⟩]) (.inr rfl) (RVs.cellA ty64 (by rfl) (by repeat (first | exact List.Mem.head _ | refine List.Mem.tail _ ?_)) (by rfl) (RVs.tmp (by rfl) RVs.nil)) (by obtain rfl : k = n := (by omega); rw [partL_full]; exact (by repeat (first | exact List.Sublist.refl _ | exact List.nil_sublist _ | refine List.Sublist.cons_cons _ ?_ | refine List.Sublist.cons _ ?_ | exact Sbp.refl | exact Sbp.nil | refine Sbp.cons (by repeat (first | exact Rem.head | apply Rem.tail)) ?_ | exact Sbp.app | refine Sbp.skip ?_))) ?_
        exact ⟨gm, rfl, rfl⟩

end Go.Proofs.Ytplfeaikjgfhcaa
