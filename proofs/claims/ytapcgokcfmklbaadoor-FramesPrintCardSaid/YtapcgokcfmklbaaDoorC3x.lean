/-
  Contracts: a frame pixel by pixel; the reference's Clean. Conditions: as each theorem says.
-/
import Derived.Test.YtapcgokcfmklbaaDoorC3
namespace Go.Proofs.YtapcgokcfmklbaaDoor
open Go Go.Proofs Go.RowKit

theorem ty130 : tyChk Tryd.prog 130 = some ([.nilFunc], false, 8) := by kernel_rfl
set_option maxRecDepth 100000 in
theorem each1 (x y : Int) (a b : Nat) (A : Option Addr) (n c : Nat) (xs : List Nat) (b2 b3 : Nat) (fp : FuncId) (cap : Array Value) (T : Nat → (Nat → Nat) → Nat) (X Y : Int) (W : World) (hn : xs.length = n) (hA : FS W A xs) (hN : n = 4 * (a * b)) (hc : n ≤ c) (ha : 1 ≤ a ∧ a ≤ 256) (hb : 1 ≤ b ∧ b ≤ 256) (hx : -1048576 ≤ x ∧ x ≤ 1048576) (hy : -1048576 ≤ y ∧ y ≤ 1048576) (h2 : W.cell? ⟨b2, 0, none⟩ = some (.func (.func fp) #[] cap)) (h3 : ∀ j v, [iv x, iv y, iv (a : Int), iv (b : Int), .slice A n c][j]? = some v → W.cell? ((⟨b3, 0, none⟩ : Addr).add j) = some v) (hok : callOK Tryd.prog fp = true) (hf : ∀ wd Hd, Own W wd Hd → ∀ q : Nat → Nat, Fn_ Tryd.prog fp (pxv q :: cap.toList).toArray wd (fun v H => v = pxv (fun c => T c q) ∧ H = [])) : Fn_ Tryd.prog 136 #[iv X, iv Y, .pointer (some ⟨b2, 0, none⟩), .pointer (some ⟨b3, 0, none⟩)] W (fun v H => v = pxv (fun c => T c (pixF xs x y a b X Y)) ∧ H = []) := by
  refine Fn_.intro Tryd.func136 rfl rfl (by rfl) ?_
  refine CS.seq ?_
  refine CS.region ?_
  refine RS.alloc rfl ty38 ?_
  intro g6
  refine RS.nil ?_
  refine thenC_n ?_
  refine CS.seq ?_
  refine CS.draw 6 rfl (by kernel_rfl) (by kernel_rfl) ?_
  refine RT.take (i := 0) rfl (by kernel_rfl) rfl (QO.loadO ty130 (by rfl) h2) ?_
  refine RT.take (i := 1) rfl (by kernel_rfl) rfl (QO.loadOA ty34 (by rfl) h3 (by rfl)) ?_
  refine RT.take (i := 2) rfl (by kernel_rfl) rfl (QO.move) ?_
  refine RT.take (i := 3) rfl (by kernel_rfl) rfl (QO.move) ?_
  refine RT.one (i := 4) (by kernel_rfl) rfl rfl ?_
  refine RS.call rfl (by rfl) ok137 (by rfl) (fun w ho => pixelAt x y a b A n c xs X Y _ hn (hA.own ho) hN hc ha hb hx hy) ?_
  rintro _ _ ⟨rfl, rfl⟩
  refine RS.nil ⟨(by repeat (first | exact List.Sublist.refl _ | exact List.nil_sublist _ | refine List.Sublist.cons_cons _ ?_ | refine List.Sublist.cons _ ?_ | exact Sbp.refl | exact Sbp.nil | refine Sbp.cons (by repeat (first | exact Rem.head | apply Rem.tail)) ?_ | exact Sbp.app | refine Sbp.skip ?_)), ?_⟩
  refine RT.one (i := 5) (by kernel_rfl) rfl rfl ?_
  refine RS.call rfl (by rfl) hok (by rfl) (fun w ho => hf _ _ ho (pixF xs x y a b X Y)) ?_
  rintro _ _ ⟨rfl, rfl⟩
  refine RS.nil ⟨(by repeat (first | exact List.Sublist.refl _ | exact List.nil_sublist _ | refine List.Sublist.cons_cons _ ?_ | refine List.Sublist.cons _ ?_ | exact Sbp.refl | exact Sbp.nil | refine Sbp.cons (by repeat (first | exact Rem.head | apply Rem.tail)) ?_ | exact Sbp.app | refine Sbp.skip ?_)), ?_⟩
  refine RT.tail (i := 6) (by kernel_rfl) rfl rfl ?_
  first | refine RS.storeB ty38 (by rfl) (by rfl) (by rfl) (by rfl) (by rfl) (by repeat (first | exact Upd.head | apply Upd.tail)) (by rfl) ?_ | refine RS.storeP ty38 (by rfl) (by rfl) (by rfl) (by rfl) (by rfl) (by repeat (first | exact Upd.head | apply Upd.tail)) (by rfl) ?_
  refine RS.nil ?_
  refine RT.done (by kernel_rfl) ?_
  refine thenC_n ?_
  refine CS.ret ?_
  refine retQ.mk (H' := []) (.inr rfl) (RVs.cellA ty38 (by rfl) (by repeat (first | exact List.Mem.head _ | refine List.Mem.tail _ ?_)) (by rfl) RVs.nil) (List.nil_sublist _) ?_
  exact ⟨rfl, rfl⟩

set_option maxRecDepth 100000 in
theorem reach (x y : Int) (a b : Nat) (A : Option Addr) (n c : Nat) (xs : List Nat) (fp : FuncId) (cap : Array Value) (T : Nat → (Nat → Nat) → Nat) (W : World) (hn : xs.length = n) (hA : FS W A xs) (hN : n = 4 * (a * b)) (hc : n ≤ c) (ha : 1 ≤ a ∧ a ≤ 256) (hb : 1 ≤ b ∧ b ≤ 256) (hx : -1048576 ≤ x ∧ x ≤ 1048576) (hy : -1048576 ≤ y ∧ y ≤ 1048576) (hok : callOK Tryd.prog fp = true) (hf : ∀ wd Hd, Own W wd Hd → ∀ q : Nat → Nat, Fn_ Tryd.prog fp (pxv q :: cap.toList).toArray wd (fun v H => v = pxv (fun c => T c q) ∧ H = [])) : Fn_ Tryd.prog 80 #[.agg #[iv x, iv y, iv (a : Int), iv (b : Int), .slice A n c], .func (.func fp) #[] cap] W (fun v H => MadeR x y a b (eachV T xs n) v H) := by
  refine Fn_.intro Tryd.func80 rfl rfl (by rfl) ?_
  refine CS.seq ?_
  refine CS.region ?_
  refine RS.box rfl (by rfl) (by rfl) ?_
  intro g2
  refine RS.box rfl (by rfl) (by rfl) ?_
  intro g3
  refine RS.alloc rfl ty34 ?_
  intro g4
  refine RS.nil ?_
  refine thenC_n ?_
  refine CS.seq ?_
  refine CS.region ?_
  refine RS.q rfl (QO.fieldAddr fo34_0 (by rfl)) ?_
  first | (refine RS.q rfl (QO.loadB ty31 (by rfl) (by repeat (first | exact List.Mem.head _ | refine List.Mem.tail _ ?_)) (by rfl)) ?_) | (refine RS.q rfl (QO.loadA ty31 (by rfl) (by repeat (first | exact List.Mem.head _ | refine List.Mem.tail _ ?_)) (by rfl) (by rfl)) ?_) | (refine RS.q rfl (QO.loadOA ty31 (by rfl) (by assumption) (by rfl)) ?_)
  refine RS.q rfl (QO.makeFunc) ?_
  refine RS.call rfl (by rfl) ok135 (by rfl) (fun w ho => made' x y a b 136 _ (fun X Y c => T c (pixF xs x y a b X Y)) _ (by kernel_rfl) ha hb hx hy (fun wd Hd hd X Y _ _ _ _ => each1 x y a b A n c xs g3 g2 fp cap T X Y wd hn ((hA.own ho).own hd) hN hc ha hb hx hy (hd.old (ho.cell0 (by repeat (first | exact List.Mem.head _ | refine List.Mem.tail _ ?_)) rfl)) (fun j v hj => hd.old (ho.cellAt (by repeat (first | exact List.Mem.head _ | refine List.Mem.tail _ ?_)) hj)) hok (fun wd2 Hd2 hd2 q => hf _ _ ((ho.call hd).call hd2) q))) ?_
  intro v8 H8 hv8
  obtain ⟨gm, cm, jm, rfl, rfl, hcm, hcm2⟩ := hv8
  first | refine RS.storeB ty34 (by rfl) (by rfl) (by rfl) (by rfl) (by rfl) (by repeat (first | exact Upd.head | apply Upd.tail)) (by rfl) ?_ | refine RS.storeP ty34 (by rfl) (by rfl) (by rfl) (by rfl) (by rfl) (by repeat (first | exact Upd.head | apply Upd.tail)) (by rfl) ?_
  refine RS.nil ?_
  refine thenC_n ?_
  refine CS.ret ?_
  refine retQ.mk (H' := [⟨gm, 36, (madeV (fun X Y c => T c (pixF xs x y a b X Y)) x y a (4 * (a * b))).map flt ++ jm⟩]) (.inr rfl) (RVs.cellA ty34 (by rfl) (by repeat (first | exact List.Mem.head _ | refine List.Mem.tail _ ?_)) (by rfl) RVs.nil) (by repeat (first | exact List.Sublist.refl _ | exact List.nil_sublist _ | refine List.Sublist.cons_cons _ ?_ | refine List.Sublist.cons _ ?_ | exact Sbp.refl | exact Sbp.nil | refine Sbp.cons (by repeat (first | exact Rem.head | apply Rem.tail)) ?_ | exact Sbp.app | refine Sbp.skip ?_)) ?_
  rw [madeV_each] at hcm ⊢
  rw [hN]
  exact ⟨gm, cm, jm, rfl, rfl, hcm, hcm2⟩

set_option maxRecDepth 100000 in
theorem rclean (x y : Int) (a b : Nat) (A : Option Addr) (n c : Nat) (xs : List Nat) (W : World) (hn : xs.length = n) (hA : FS W A xs) (hN : n = 4 * (a * b)) (hc : n ≤ c) (ha : 1 ≤ a ∧ a ≤ 256) (hb : 1 ≤ b ∧ b ≤ 256) (hx : -1048576 ≤ x ∧ x ≤ 1048576) (hy : -1048576 ≤ y ∧ y ≤ 1048576) : Fn_ Tryd.prog 23 #[.agg #[iv x, iv y, iv (a : Int), iv (b : Int), .slice A n c]] W (fun v H => MadeR x y a b (xs.map cl) v H) := by
  refine Fn_.intro Tryd.func23 rfl rfl (by rfl) ?_
  refine CS.seq ?_
  refine CS.region ?_
  refine RS.box rfl (by rfl) (by rfl) ?_
  intro g1
  refine RS.alloc rfl ty34 ?_
  intro g2
  refine RS.nil ?_
  refine thenC_n ?_
  refine CS.seq ?_
  refine CS.region ?_
  first | (refine RS.q rfl (QO.loadB ty34 (by rfl) (by repeat (first | exact List.Mem.head _ | refine List.Mem.tail _ ?_)) (by rfl)) ?_) | (refine RS.q rfl (QO.loadA ty34 (by rfl) (by repeat (first | exact List.Mem.head _ | refine List.Mem.tail _ ?_)) (by rfl) (by rfl)) ?_) | (refine RS.q rfl (QO.loadOA ty34 (by rfl) (by assumption) (by rfl)) ?_)
  refine RS.call rfl (by rfl) ok80 (by rfl) (fun w ho => reach x y a b A n c xs 81 #[] (fun c q => q c) _ hn (hA.own ho) hN hc ha hb hx hy (by kernel_rfl) (fun wd Hd hd q => rclean1 q wd)) ?_
  intro v4 H4 hv4
  rw [eachV_id _ _ hn] at hv4
  obtain ⟨gm, cm, jm, rfl, rfl, hcm, hcm2⟩ := hv4
  first | refine RS.storeB ty34 (by rfl) (by rfl) (by rfl) (by rfl) (by rfl) (by repeat (first | exact Upd.head | apply Upd.tail)) (by rfl) ?_ | refine RS.storeP ty34 (by rfl) (by rfl) (by rfl) (by rfl) (by rfl) (by repeat (first | exact Upd.head | apply Upd.tail)) (by rfl) ?_
  refine RS.nil ?_
  refine thenC_n ?_
  refine CS.ret ?_
  refine retQ.mk (H' := [⟨gm, 36, (xs.map cl).map flt ++ jm⟩]) (.inr rfl) (RVs.cellA ty34 (by rfl) (by repeat (first | exact List.Mem.head _ | refine List.Mem.tail _ ?_)) (by rfl) RVs.nil) (by repeat (first | exact List.Sublist.refl _ | exact List.nil_sublist _ | refine List.Sublist.cons_cons _ ?_ | refine List.Sublist.cons _ ?_ | exact Sbp.refl | exact Sbp.nil | refine Sbp.cons (by repeat (first | exact Rem.head | apply Rem.tail)) ?_ | exact Sbp.app | refine Sbp.skip ?_)) ?_
  exact ⟨gm, cm, jm, rfl, rfl, hcm, hcm2⟩

end Go.Proofs.YtapcgokcfmklbaaDoor
