/-
  Contracts: conform.Slip, conform.Trim. Conditions: as each theorem says.
-/
import Derived.Test.YtapcgokcfmklbaaDoorEv3
namespace Go.Proofs.YtapcgokcfmklbaaDoor
open Go Go.Proofs Go.RowKit

theorem ok82 : callOK Tryd.prog 82 = true := by kernel_rfl
theorem ok83 : callOK Tryd.prog 83 = true := by kernel_rfl

set_option maxRecDepth 100000 in
theorem slip_ (t : List UInt8) (rate : Int) (A : Option Addr) (n c : Nat) (l : List Ev) (i by_ : Int) (W : World) (ht : t.length ≤ maxLen) (hl : l.length = n) (hES : ES W A l) (hr : ∀ e ∈ l, e.reel.length ≤ maxLen) (hm : n ≤ maxLen) : Fn_ Tryd.prog 25 #[.agg #[sv t, iv rate, .slice A n c], iv i, iv by_] W (fun v H => chR t rate n l (slipL l i.toNat (min (max by_ (-1073741824)) 1073741824)) i v H) := by
  refine Fn_.intro Tryd.func25 rfl rfl (by rfl) ?_
  refine CS.seq ?_
  refine CS.region ?_
  refine RS.box rfl (by rfl) (by rfl) ?_
  intro g3
  refine RS.box rfl (by rfl) (by rfl) ?_
  intro g5
  refine RS.alloc rfl ty52 ?_
  intro g6
  refine RS.q rfl (QO.assign) ?_
  refine RS.nil ?_
  refine thenC_n ?_
  refine CS.seq ?_
  refine CS.region ?_
  first | (refine RS.q rfl (QO.load ty3 (by rfl) (by repeat (first | exact List.Mem.head _ | refine List.Mem.tail _ ?_)) (by rfl)) ?_) | (refine RS.q rfl (QO.loadO ty3 (by rfl) (by assumption)) ?_) | (refine RS.q rfl (QO.load ty3 (by rfl) (by repeat (first | exact List.Mem.head _ | refine List.Mem.tail _ ?_)) (by assumption)) ?_)
  refine RS.call rfl (by rfl) ok82 (by rfl) (fun w ho => far_ by_ _) ?_
  rintro _ _ ⟨rfl, rfl⟩
  refine RS.store1 ty3 rfl (by rfl) (by rfl) (by rfl) (by repeat (first | exact Upd.head | apply Upd.tail)) (by first | (simp; done) | (simp; omega) | omega) ?_
  refine RS.nil ?_
  refine thenC_n ?_
  refine CS.seq ?_
  refine CS.region ?_
  first | (refine RS.q rfl (QO.loadB ty52 (by rfl) (by repeat (first | exact List.Mem.head _ | refine List.Mem.tail _ ?_)) (by rfl)) ?_) | (refine RS.q rfl (QO.loadA ty52 (by rfl) (by repeat (first | exact List.Mem.head _ | refine List.Mem.tail _ ?_)) (by rfl) (by rfl)) ?_) | (refine RS.q rfl (QO.loadOA ty52 (by rfl) (by assumption) (by rfl)) ?_)
  refine RS.q rfl (QO.move) ?_
  refine RS.q rfl (QO.makeFunc) ?_
  refine RS.call rfl (by rfl) ok83 (by rfl) (fun w ho => changed_ t rate A n c l (slipL l i.toNat (min (max by_ (-1073741824)) 1073741824)) i 84 #[.pointer (some ⟨g5, 0, none⟩)] _ ht hl (hES.own ho) hr hm (by rw [slipL_len]; exact hl) (slipL_reel hr) (by kernel_rfl) (fun h0 h1 hz g c2 junk HR hc => slip1 g g5 i.toNat _ c2 _ l junk HR _ (ho.cellG (g := g5) (by first | exact List.Mem.head _ | exact List.Mem.tail _ (List.Mem.head _) | exact List.Mem.tail _ (List.Mem.tail _ (List.Mem.head _))) rfl) (by omega) (by omega) (by omega) (edE_rng hz))) ?_
  intro v13 H13 hch
  have hch : chR t rate n l (slipL l i.toNat (min (max by_ (-1073741824)) 1073741824)) i v13 H13 := hch
  have hx := chT hch
  obtain ⟨a1, a2, a3, a4, a5, er, hv⟩ := hx
  subst hv
  refine RS.sbpx (H2 := ⟨g6, 52, [Value.string ByteArray.empty, iv 0, .slice none 0 0]⟩ :: H13) (Sbp.cons (rem_appx (by repeat (first | exact Rem.head | apply Rem.tail))) (by repeat (first | exact List.Sublist.refl _ | exact List.nil_sublist _ | refine List.Sublist.cons_cons _ ?_ | refine List.Sublist.cons _ ?_ | exact Sbp.refl | exact Sbp.nil | refine Sbp.cons (by repeat (first | exact Rem.head | apply Rem.tail)) ?_ | exact Sbp.app | refine Sbp.skip ?_))) ?_
  refine RS.q rfl (QO.extract (by rfl) (by rfl)) ?_
  refine RS.q rfl (QO.extract (by rfl) (by rfl)) ?_
  first | refine RS.storeB ty52 (by rfl) (by rfl) (by rfl) (by rfl) (by rfl) (by repeat (first | exact Upd.head | apply Upd.tail)) (by rfl) ?_ | refine RS.storeP ty52 (by rfl) (by rfl) (by rfl) (by rfl) (by rfl) (by repeat (first | exact Upd.head | apply Upd.tail)) (by rfl) ?_
  refine RS.q rfl (QO.assign) ?_
  refine RS.nil ?_
  refine thenC_n ?_
  refine CS.ret ?_
  refine retQ.mk (H' := H13) (.inr rfl) (RVs.cellA ty52 (by rfl) (by repeat (first | exact List.Mem.head _ | refine List.Mem.tail _ ?_)) (by rfl) (RVs.tmp (by rfl) RVs.nil)) (by repeat (first | exact List.Sublist.refl _ | exact List.nil_sublist _ | refine List.Sublist.cons_cons _ ?_ | refine List.Sublist.cons _ ?_ | exact Sbp.refl | exact Sbp.nil | refine Sbp.cons (by repeat (first | exact Rem.head | apply Rem.tail)) ?_ | exact Sbp.app | refine Sbp.skip ?_)) ?_
  exact hch

set_option maxRecDepth 100000 in
theorem trim_ (t : List UInt8) (rate : Int) (A : Option Addr) (n c : Nat) (l : List Ev) (i by_ : Int) (W : World) (ht : t.length ≤ maxLen) (hl : l.length = n) (hES : ES W A l) (hr : ∀ e ∈ l, e.reel.length ≤ maxLen) (hm : n ≤ maxLen) : Fn_ Tryd.prog 27 #[.agg #[sv t, iv rate, .slice A n c], iv i, iv by_] W (fun v H => chR t rate n l (trimEL l i.toNat (min (max by_ (-1073741824)) 1073741824)) i v H) := by
  refine Fn_.intro Tryd.func27 rfl rfl (by rfl) ?_
  refine CS.seq ?_
  refine CS.region ?_
  refine RS.box rfl (by rfl) (by rfl) ?_
  intro g3
  refine RS.box rfl (by rfl) (by rfl) ?_
  intro g5
  refine RS.alloc rfl ty52 ?_
  intro g6
  refine RS.q rfl (QO.assign) ?_
  refine RS.nil ?_
  refine thenC_n ?_
  refine CS.seq ?_
  refine CS.region ?_
  first | (refine RS.q rfl (QO.load ty3 (by rfl) (by repeat (first | exact List.Mem.head _ | refine List.Mem.tail _ ?_)) (by rfl)) ?_) | (refine RS.q rfl (QO.loadO ty3 (by rfl) (by assumption)) ?_) | (refine RS.q rfl (QO.load ty3 (by rfl) (by repeat (first | exact List.Mem.head _ | refine List.Mem.tail _ ?_)) (by assumption)) ?_)
  refine RS.call rfl (by rfl) ok82 (by rfl) (fun w ho => far_ by_ _) ?_
  rintro _ _ ⟨rfl, rfl⟩
  refine RS.store1 ty3 rfl (by rfl) (by rfl) (by rfl) (by repeat (first | exact Upd.head | apply Upd.tail)) (by first | (simp; done) | (simp; omega) | omega) ?_
  refine RS.nil ?_
  refine thenC_n ?_
  refine CS.seq ?_
  refine CS.region ?_
  first | (refine RS.q rfl (QO.loadB ty52 (by rfl) (by repeat (first | exact List.Mem.head _ | refine List.Mem.tail _ ?_)) (by rfl)) ?_) | (refine RS.q rfl (QO.loadA ty52 (by rfl) (by repeat (first | exact List.Mem.head _ | refine List.Mem.tail _ ?_)) (by rfl) (by rfl)) ?_) | (refine RS.q rfl (QO.loadOA ty52 (by rfl) (by assumption) (by rfl)) ?_)
  refine RS.q rfl (QO.move) ?_
  refine RS.q rfl (QO.makeFunc) ?_
  refine RS.call rfl (by rfl) ok83 (by rfl) (fun w ho => changed_ t rate A n c l (trimEL l i.toNat (min (max by_ (-1073741824)) 1073741824)) i 86 #[.pointer (some ⟨g5, 0, none⟩)] _ ht hl (hES.own ho) hr hm (by rw [trimEL_len]; exact hl) (trimEL_reel hr) (by kernel_rfl) (fun h0 h1 hz g c2 junk HR hc => trim1 g g5 i.toNat _ c2 _ l junk HR _ (ho.cellG (g := g5) (by first | exact List.Mem.head _ | exact List.Mem.tail _ (List.Mem.head _) | exact List.Mem.tail _ (List.Mem.tail _ (List.Mem.head _))) rfl) (by omega) hc (edE_ok hz).2.2.1 (by omega) (by omega) (by omega) (edE_rng hz))) ?_
  intro v13 H13 hch
  have hch : chR t rate n l (trimEL l i.toNat (min (max by_ (-1073741824)) 1073741824)) i v13 H13 := hch
  have hx := chT hch
  obtain ⟨a1, a2, a3, a4, a5, er, hv⟩ := hx
  subst hv
  refine RS.sbpx (H2 := ⟨g6, 52, [Value.string ByteArray.empty, iv 0, .slice none 0 0]⟩ :: H13) (Sbp.cons (rem_appx (by repeat (first | exact Rem.head | apply Rem.tail))) (by repeat (first | exact List.Sublist.refl _ | exact List.nil_sublist _ | refine List.Sublist.cons_cons _ ?_ | refine List.Sublist.cons _ ?_ | exact Sbp.refl | exact Sbp.nil | refine Sbp.cons (by repeat (first | exact Rem.head | apply Rem.tail)) ?_ | exact Sbp.app | refine Sbp.skip ?_))) ?_
  refine RS.q rfl (QO.extract (by rfl) (by rfl)) ?_
  refine RS.q rfl (QO.extract (by rfl) (by rfl)) ?_
  first | refine RS.storeB ty52 (by rfl) (by rfl) (by rfl) (by rfl) (by rfl) (by repeat (first | exact Upd.head | apply Upd.tail)) (by rfl) ?_ | refine RS.storeP ty52 (by rfl) (by rfl) (by rfl) (by rfl) (by rfl) (by repeat (first | exact Upd.head | apply Upd.tail)) (by rfl) ?_
  refine RS.q rfl (QO.assign) ?_
  refine RS.nil ?_
  refine thenC_n ?_
  refine CS.ret ?_
  refine retQ.mk (H' := H13) (.inr rfl) (RVs.cellA ty52 (by rfl) (by repeat (first | exact List.Mem.head _ | refine List.Mem.tail _ ?_)) (by rfl) (RVs.tmp (by rfl) RVs.nil)) (by repeat (first | exact List.Sublist.refl _ | exact List.nil_sublist _ | refine List.Sublist.cons_cons _ ?_ | refine List.Sublist.cons _ ?_ | exact Sbp.refl | exact Sbp.nil | refine Sbp.cons (by repeat (first | exact Rem.head | apply Rem.tail)) ?_ | exact Sbp.app | refine Sbp.skip ?_)) ?_
  exact hch

end Go.Proofs.YtapcgokcfmklbaaDoor
