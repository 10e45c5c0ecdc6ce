/-
  Contracts: edit lists cloned and compared. Conditions: as each theorem says.
-/
import Derived.Test.YtapcgokcfmklbaaDoorE2
import Derived.Test.YtapcgokcfmklbaaDoorEv2
namespace Go.Proofs.YtapcgokcfmklbaaDoor
open Go Go.Proofs Go.RowKit



theorem mix134 : mixT Tryd.prog 134 [1, 0, 0, 0, 0, 0] = true := by kernel_rfl

set_option maxRecDepth 100000 in
theorem far_ (x : Int) (W : World) : Fn_ Tryd.prog 82 #[iv x] W (fun v H => v = iv (min (max x (-1073741824)) 1073741824) ∧ H = []) := by
  refine Fn_.intro Tryd.func82 rfl rfl (by rfl) ?_
  refine CS.seq ?_
  refine CS.region ?_
  refine RS.q rfl (QO.assign) ?_
  refine RS.nil ?_
  refine thenC_n ?_
  refine CS.seq ?_
  refine CS.region ?_
  refine RS.q rfl (QO.move) ?_
  refine RS.q rfl (QO.max2 (by rfl) (by rfl)) ?_
  refine RS.q rfl (QO.min2 (by rfl) (by rfl)) ?_
  refine RS.q rfl (QO.assign) ?_
  refine RS.nil ?_
  refine thenC_n ?_
  refine CS.ret ?_
  refine retQ.mk (H' := []) (.inr rfl) (RVs.tmp (by rfl) RVs.nil) (List.nil_sublist _) ?_
  exact ⟨rfl, rfl⟩

set_option maxRecDepth 100000 in
theorem clone_ (A : Option Addr) (n c : Nat) (l : List Ev) (W : World) (hl : l.length = n) (hA : ES W A l) (h0 : 0 < n) (hm : n ≤ 500) : Fn_ Tryd.prog 85 #[.slice A n c] W (fun v H => ∃ g cap junk, v = .slice (some ⟨g, 0, none⟩) n cap ∧ H = [⟨g, 134, evs l ++ junk⟩] ∧ n ≤ cap ∧ cap ≤ maxLen) := by
  obtain ⟨bA, oA, rfl, hsrc⟩ := hA.src (by omega)
  refine Fn_.intro Tryd.func85 rfl rfl (by rfl) ?_
  refine CS.seq ?_
  refine CS.region ?_
  refine RS.q rfl (QO.assign) ?_
  refine RS.nil ?_
  refine thenC_n ?_
  refine CS.seq ?_
  refine CS.seq ?_
  refine CS.region ?_
  refine RS.q rfl (QO.move) ?_
  refine RS.q rfl (QO.sliceNil Tryd.underlying50 (by rfl) (by rfl)) ?_
  refine RS.nil ?_
  refine thenC_n ?_
  refine CS.condF (by rfl) rfl ?_
  refine CS.skip ?_
  refine thenC_n ?_
  refine CS.seq ?_
  refine CS.region ?_
  refine RS.buildSlice0 rfl Tryd.underlying50 ty134 ?_
  intro g5
  refine RS.q rfl (QO.move) ?_
  refine RS.appendRow rfl Tryd.underlying50 ty134 (by rfl) (Row.own (el := 134) (g := g5) (xs := []) (junk := []) rfl rfl (Nat.le_refl 0) (Nat.zero_le _)) (by repeat (first | exact Suf.base | apply Suf.cons)) (a := ⟨bA, oA, none⟩) (news := evs l) (by rfl) (.inl hsrc) (by rw [evs_len, Nat.mul_comm, hl]; rfl) (evs_one l) (by decide) (by omega) (by unfold maxLen; omega) (by omega) ?_
  intro v7 H7 hrow7
  have hx1 := hrow7.some (by omega)
  obtain ⟨gl, cp, jk, hv7, hH7, hcp, hcpx, hln⟩ := hx1
  rw [Nat.zero_add] at hv7 hcp
  subst hv7 hH7
  refine RS.q rfl (QO.assign) ?_
  refine RS.nil ?_
  refine thenC_n ?_
  refine CS.ret ?_
  refine retQ.mk (H' := [⟨gl, 134, [] ++ evs l ++ jk⟩]) (.inr rfl) (RVs.tmp (by rfl) RVs.nil) (by repeat (first | exact List.Sublist.refl _ | exact List.nil_sublist _ | refine List.Sublist.cons_cons _ ?_ | refine List.Sublist.cons _ ?_ | exact Sbp.refl | exact Sbp.nil | refine Sbp.cons (by repeat (first | exact Rem.head | apply Rem.tail)) ?_ | exact Sbp.app | refine Sbp.skip ?_)) ?_
  exact ⟨gl, cp, jk, rfl, rfl, hcp, hcpx⟩

set_option maxRecDepth 100000 in
theorem equalE (A A2 : Option Addr) (n c n2 c2 : Nat) (l m : List Ev) (W : World) (hl : l.length = n) (hA : ES W A l) (hl2 : m.length = n2) (hA2 : ES W A2 m) (hm : n ≤ maxLen) : Fn_ Tryd.prog 87 #[.slice A n c, .slice A2 n2 c2] W (fun v H => v = .bool (decide (l = m)) ∧ H = []) := by
  subst hl hl2
  unfold maxLen at hm
  refine Fn_.intro Tryd.func87 rfl rfl (by rfl) ?_
  refine CS.seq ?_
  refine CS.region ?_
  refine RS.q rfl (QO.assign) ?_
  refine RS.nil ?_
  refine thenC_n ?_
  refine CS.seq ?_
  refine CS.seq ?_
  refine CS.region ?_
  refine RS.q rfl (QO.move) ?_
  refine RS.q rfl (QO.lenS Tryd.underlying50 (by rfl)) ?_
  refine RS.q rfl (QO.move) ?_
  refine RS.q rfl (QO.lenS Tryd.underlying50 (by rfl)) ?_
  refine RS.q rfl (QO.neq (by rfl) (by rfl)) ?_
  refine RS.nil ?_
  refine thenC_n ?_
  refine CS.cond (by rfl) (fun hb0 => ?_) (fun hb0 => ?_)
  · have hb0p := bne_iff_ne.1 hb0
    refine CS.seq ?_
    refine CS.region ?_
    refine RS.q rfl (QO.assign) ?_
    refine RS.nil ?_
    refine thenC_n ?_
    refine CS.ret ?_
    refine thenC_r ?_
    refine retQ.mk (H' := []) (.inr rfl) (RVs.tmp (by rfl) RVs.nil) (List.nil_sublist _) ?_
    exact ⟨congrArg Value.bool (decide_eq_false (fun h => by rw [h] at hb0p; exact hb0p rfl)).symm, rfl⟩
  · have hb0p := of_bne_false hb0
    refine CS.skip ?_
    refine thenC_n ?_
    refine CS.seq ?_
    refine CS.seq ?_
    refine CS.region ?_
    refine RS.q rfl (QO.move) ?_
    refine RS.q rfl (QO.lenS Tryd.underlying50 (by rfl)) ?_
    refine RS.q rfl (QO.move) ?_
    refine RS.nil ?_
    refine thenC_n ?_
    refine CS.block ?_
    refine CS.loop (X := Nat) (4 :: 5 :: 13 :: 14 :: 15 :: 16 :: 17 :: 18 :: 19 :: 20 :: 21 :: 22 :: 23 :: 24 :: 25 :: []) (fun k => [(13, iv (k : Int))]) (fun k => []) (fun k => k ≤ l.length ∧ ∀ j, j < k → l.getD j default = m.getD j default) (fun k => l.length - k) 0 ⟨Nat.zero_le _, fun j h => absurd h (Nat.not_lt_zero _)⟩ ?_ ?_ ?_
    · exact (by repeat (first | exact kn_nil | refine kn_cons (by rfl) ?_))
    · exact (by repeat (first | exact List.Sublist.refl _ | exact List.nil_sublist _ | refine List.Sublist.cons_cons _ ?_ | refine List.Sublist.cons _ ?_ | exact Sbp.refl | exact Sbp.nil | refine Sbp.cons (by repeat (first | exact Rem.head | apply Rem.tail)) ?_ | exact Sbp.app | refine Sbp.skip ?_))
    · intro k gj4 hz
      obtain ⟨hk, hall⟩ := hz
      have hlen : (l.length : Int) = (m.length : Int) := by assumption
      refine CS.seq ?_
      refine CS.region ?_
      refine RS.q rfl (QO.lss (by rfl) (by rfl)) ?_
      refine RS.nil ?_
      refine thenC_n ?_
      refine CS.seq ?_
      refine CS.cond (by rfl) (fun hb1 => ?_) (fun hb1 => ?_)
      · have hb1p := of_decide_eq_true hb1
        refine CS.skip ?_
        refine thenC_n ?_
        refine CS.seq ?_
        refine CS.block ?_
        refine CS.seq ?_
        refine CS.region ?_
        refine RS.q rfl (QO.move) ?_
        refine RS.q rfl (QO.assign) ?_
        refine RS.nil ?_
        refine thenC_n ?_
        refine CS.seq ?_
        refine CS.draw 9 rfl (by kernel_rfl) (by kernel_rfl) ?_
        have hx1 := hA.at_ (show k < l.length by omega)
        obtain ⟨bA, oA, e1, hc1⟩ := hx1
        subst e1
        have hx2 := hA2.at_ (show k < m.length by omega)
        obtain ⟨bB, oB, e2, hc2⟩ := hx2
        subst e2
        refine RT.take (i := 0) rfl (by kernel_rfl) rfl (QO.move) ?_
        refine RT.take (i := 1) rfl (by kernel_rfl) rfl (QO.move) ?_
        refine RT.take (i := 2) rfl (by kernel_rfl) rfl (QO.idx Tryd.underlying50 ty134 (by rfl) (by rfl) (by omega) (by omega)) ?_
        refine RT.take (i := 3) rfl (by kernel_rfl) rfl (QO.loadOA ty134 (vs := evc (l.getD k default)) (by rfl) hc1 (by rfl)) ?_
        refine RT.take (i := 4) rfl (by kernel_rfl) rfl (QO.move) ?_
        refine RT.take (i := 5) rfl (by kernel_rfl) rfl (QO.move) ?_
        refine RT.take (i := 6) rfl (by kernel_rfl) rfl (QO.idx Tryd.underlying50 ty134 (by rfl) (by rfl) (by omega) (by omega)) ?_
        refine RT.take (i := 7) rfl (by kernel_rfl) rfl (QO.loadOA ty134 (vs := evc (m.getD k default)) (by rfl) hc2 (by rfl)) ?_
        refine RT.takev (i := 8) rfl (by kernel_rfl) rfl (QO.sneqM (fdE (l.getD k default)) (fdE (m.getD k default)) mix134 (by rfl) (by rfl) rfl rfl) (congrArg Value.bool (show (!allEq (fdE (l.getD k default)) (fdE (m.getD k default))) = !decide (l.getD k default = m.getD k default) from by rw [fdE_eq])) ?_
        refine RT.done (by kernel_rfl) ?_
        refine thenC_n ?_
        refine CS.cond (by rfl) (fun hb2 => ?_) (fun hb2 => ?_)
        · have hb2p := Eq.mp (Bool.not_eq_true' _) hb2
          refine CS.seq ?_
          refine CS.region ?_
          refine RS.q rfl (QO.assign) ?_
          refine RS.nil ?_
          refine thenC_n ?_
          refine CS.ret ?_
          refine blockC_r ?_
          refine thenC_r ?_
          refine loopQ_r ?_
          refine blockC_r ?_
          refine thenC_r ?_
          refine retQ.mk (H' := []) (.inr rfl) (RVs.tmp (by rfl) RVs.nil) (List.nil_sublist _) ?_
          exact ⟨congrArg Value.bool (decide_eq_false (fun h => of_decide_eq_false hb2p (by rw [h]))).symm, rfl⟩
        · have hb2p := Eq.mp (Bool.not_eq_false' _) hb2
          refine CS.skip ?_
          refine blockC_n ?_
          refine thenC_n ?_
          refine CS.region ?_
          first | (refine RS.q rfl (QO.add (by rfl) (by rfl) (by omega) (by omega)) ?_) | (refine RS.q rfl (QO.ibin (by rfl) (by rfl) trivial) ?_)
          refine RS.q rfl (QO.move) ?_
          refine RS.nil ?_
          refine loopQ_n (by intro t ht; repeat (first | with_reducible exact rfl | exact frame_puts ht (frame_mix ht) _ rfl | (refine frame_put rfl ht ?_) | (refine frame_puts ht ?_ _ rfl) | exact frame_mix ht | (refine frame_mix2 rfl ht ?_) | exact rfl)) ?_
          exact ⟨k + 1, ⟨by omega, fun j hj => by
              by_cases e : j = k
              · subst e; exact of_decide_eq_true hb2p
              · exact hall j (by omega)⟩, by omega, (by repeat (first | exact kn_nil | refine kn_cons (by rfl) ?_)), (by repeat (first | exact List.Sublist.refl _ | exact List.nil_sublist _ | refine List.Sublist.cons_cons _ ?_ | refine List.Sublist.cons _ ?_ | exact Sbp.refl | exact Sbp.nil | refine Sbp.cons (by repeat (first | exact Rem.head | apply Rem.tail)) ?_ | exact Sbp.app | refine Sbp.skip ?_))⟩
      · have hb1p := of_decide_eq_false hb1
        refine CS.exit ?_
        refine thenC_x ?_
        refine loopQ_x ?_
        refine blockC_x ?_
        refine thenC_n ?_
        refine CS.seq ?_
        refine CS.region ?_
        refine RS.q rfl (QO.assign) ?_
        refine RS.nil ?_
        refine thenC_n ?_
        refine CS.ret ?_
        refine retQ.mk (H' := []) (.inr rfl) (RVs.tmp (by rfl) RVs.nil) (List.nil_sublist _) ?_
        exact ⟨congrArg Value.bool (decide_eq_true (getD_ext (by omega) (fun j hj => hall j (by omega)))).symm, rfl⟩

end Go.Proofs.YtapcgokcfmklbaaDoor
