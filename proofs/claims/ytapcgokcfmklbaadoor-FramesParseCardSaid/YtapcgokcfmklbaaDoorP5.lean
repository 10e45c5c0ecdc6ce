/-
  Contracts: FramesParse. Conditions: as each theorem says.
-/
import Derived.Test.YtapcgokcfmklbaaDoorP4
import Derived.Test.YtapcgokcfmklbaaDoorC8
namespace Go.Proofs.YtapcgokcfmklbaaDoor
open Go Go.Proofs Go.RowKit

theorem ok53 : callOK Tryd.prog 53 = true := by kernel_rfl
theorem ok54 : callOK Tryd.prog 54 = true := by kernel_rfl
theorem ok55 : callOK Tryd.prog 55 = true := by kernel_rfl

theorem PrR.any {l : List UInt8} {v : Value} {H : HL} (h : PrR l v H) : ∃ (x y w h : Int) (A : Option Addr) (n c : Nat), v = .tuple #[.agg #[iv x, iv y, iv w, iv h, .slice A n c], iv (prsR l).1, iv (prsR l).2] ∧ FV (prsR l).2 (tX l 0) (tX l 1) (tX l 2) (tX l 3) (rowsV l (tX l 3).toNat) x y w h A n H := by
  rcases h with ⟨h1, rfl, rfl⟩ | ⟨h1, g, n, cap, junk, rfl, rfl, h2, h3, h4⟩
  · exact ⟨_, _, _, _, _, _, _, rfl, .inl ⟨h1, rfl, rfl, rfl, rfl, rfl⟩⟩
  · rw [h1]
    exact ⟨_, _, _, _, _, _, _, rfl, .inr ⟨rfl, rfl, rfl, rfl, rfl, h2, by omega, g, junk, rfl, List.Mem.head _⟩⟩

set_option maxHeartbeats 4000000 in
set_option maxRecDepth 100000 in
theorem framesParse (l : List UInt8) (W : World) (m : Int) (hm : W.cell? ⟨1, 0, none⟩ = some (.int .i64 m)) (te3 : TypeId) (pe3 : Value) (te4 : TypeId) (pe4 : Value) (ht : Lib.TabIs Tryd.prog W "internal/strconv.uint64pow10" .u64 Lib.pow10Tab) (h3 : W.cell? ⟨3, 0, none⟩ = some (.iface te3 pe3)) (h4 : W.cell? ⟨4, 0, none⟩ = some (.iface te4 pe4)) : Fn_ Tryd.prog 9 #[sv l] W (fun v H => v = .bool true ∧ H = []) := by
  refine Fn_.intro Tryd.func9 rfl rfl (by rfl) ?_
  refine CS.seq ?_
  refine CS.region ?_
  refine RS.q rfl (QO.assign) ?_
  refine RS.nil ?_
  refine thenC_n ?_
  refine CS.seq ?_
  refine CS.seq ?_
  refine CS.region ?_
  refine RS.call rfl (by rfl) ok11 (by rfl) (fun w ho => landed _) ?_
  rintro _ _ ⟨rfl, rfl⟩
  refine RS.q rfl (QO.not (by rfl)) ?_
  refine RS.nil ?_
  refine thenC_n ?_
  refine CS.condF (by rfl) rfl ?_
  refine CS.skip ?_
  refine thenC_n ?_
  refine CS.seq ?_
  refine CS.region ?_
  refine RS.q rfl (QO.move) ?_
  refine RS.call rfl (by rfl) ok53 (by rfl) (fun w ho => parse_ l _ m (ho.old hm) te3 pe3 te4 pe4 (ho.tab (g := 2) (by kernel_rfl) ht) (ho.old h3) (ho.old h4)) ?_
  intro v13 H13 h13
  have k13 := h13.any
  clear h13
  obtain ⟨u_a, v_a, w_a, h_a, A_a, n_a, c_a, rfl, hva⟩ := k13
  refine RS.perm List.perm_append_comm ?_
  refine RS.q rfl (QO.move) ?_
  refine RS.q rfl (QO.extract (by rfl) (by rfl)) ?_
  refine RS.q rfl (QO.extract (by rfl) (by rfl)) ?_
  refine RS.q rfl (QO.extract (by rfl) (by rfl)) ?_
  refine RS.alloc rfl ty34 ?_
  intro g3
  first | refine RS.storeB ty34 (by rfl) (by rfl) (by rfl) (by rfl) (by rfl) (by repeat (first | exact Upd.head | apply Upd.tail)) (by rfl) ?_ | refine RS.storeP ty34 (by rfl) (by rfl) (by rfl) (by rfl) (by rfl) (by repeat (first | exact Upd.head | apply Upd.tail)) (by rfl) ?_
  refine RS.q rfl (QO.assign) ?_
  refine RS.q rfl (QO.assign) ?_
  refine RS.nil ?_
  refine thenC_n ?_
  refine CS.seq ?_
  refine CS.region ?_
  refine RS.q rfl (QO.move) ?_
  refine RS.call rfl (by rfl) ok54 (by rfl) (fun w ho => rparse_ l _ m (ho.old hm) te3 pe3 te4 pe4 (ho.tab (g := 2) (by kernel_rfl) ht) (ho.old h3) (ho.old h4)) ?_
  intro v19 H19 h19
  have k19 := h19.any
  clear h19
  obtain ⟨u_b, v_b, w_b, h_b, A_b, n_b, c_b, rfl, hvb⟩ := k19
  refine RS.perm List.perm_append_comm ?_
  refine RS.q rfl (QO.move) ?_
  refine RS.q rfl (QO.extract (by rfl) (by rfl)) ?_
  refine RS.q rfl (QO.extract (by rfl) (by rfl)) ?_
  refine RS.q rfl (QO.extract (by rfl) (by rfl)) ?_
  refine RS.alloc rfl ty34 ?_
  intro g6
  first | refine RS.storeB ty34 (by rfl) (by rfl) (by rfl) (by rfl) (by rfl) (by repeat (first | exact Upd.head | apply Upd.tail)) (by rfl) ?_ | refine RS.storeP ty34 (by rfl) (by rfl) (by rfl) (by rfl) (by rfl) (by repeat (first | exact Upd.head | apply Upd.tail)) (by rfl) ?_
  refine RS.q rfl (QO.assign) ?_
  refine RS.q rfl (QO.assign) ?_
  refine RS.nil ?_
  refine thenC_n ?_
  refine CS.seq ?_
  refine CS.region ?_
  refine RS.q rfl (QO.move) ?_
  refine RS.q rfl (QO.move) ?_
  refine RS.qv rfl (QO.eql (by rfl) (by rfl)) (congrArg Value.bool (beq_self_eq_true _)) ?_
  refine RS.q rfl (QO.move) ?_
  refine RS.on (dj := 26) rfl (congrArg Value.bool rfl) ?_
  first | (refine RS.q rfl (QO.loadB ty34 (by rfl) (by repeat (first | exact List.Mem.head _ | refine List.Mem.tail _ ?_)) (by rfl)) ?_) | (refine RS.q rfl (QO.loadA ty34 (by rfl) (by repeat (first | exact List.Mem.head _ | refine List.Mem.tail _ ?_)) (by rfl) (by rfl)) ?_) | (refine RS.q rfl (QO.loadOA ty34 (by rfl) (by assumption) (by rfl)) ?_)
  refine RS.on (dj := 26) rfl (congrArg Value.bool rfl) ?_
  refine RS.q rfl (QO.move) ?_
  refine RS.on (dj := 26) rfl (congrArg Value.bool rfl) ?_
  first | (refine RS.q rfl (QO.loadB ty34 (by rfl) (by repeat (first | exact List.Mem.head _ | refine List.Mem.tail _ ?_)) (by rfl)) ?_) | (refine RS.q rfl (QO.loadA ty34 (by rfl) (by repeat (first | exact List.Mem.head _ | refine List.Mem.tail _ ?_)) (by rfl) (by rfl)) ?_) | (refine RS.q rfl (QO.loadOA ty34 (by rfl) (by assumption) (by rfl)) ?_)
  refine RS.on (dj := 26) rfl (congrArg Value.bool rfl) ?_
  refine RS.q rfl (QO.move) ?_
  refine RS.on (dj := 26) rfl (congrArg Value.bool rfl) ?_
  refine RS.call rfl (by rfl) ok55 (by rfl) (fun w ho => alike (prsR l).2 _ _ _ _ _ _ _ _ _ _ _ _ _ _ _ _ _ _ _ w (hva.fw ho (fun q hq => by simp [hq])) (hvb.fw ho (fun q hq => by simp [hq]))) ?_
  rintro _ _ ⟨rfl, rfl⟩
  refine RS.q rfl (QO.pickT (by rfl) rfl (by rfl)) ?_
  refine RS.q rfl (QO.assign) ?_
  refine RS.nil ?_
  refine thenC_n ?_
  refine CS.ret ?_
  refine retQ.mk (H' := []) (.inr rfl) (RVs.tmp (by rfl) RVs.nil) (List.nil_sublist _) ?_
  exact ⟨rfl, rfl⟩

end Go.Proofs.YtapcgokcfmklbaaDoor
