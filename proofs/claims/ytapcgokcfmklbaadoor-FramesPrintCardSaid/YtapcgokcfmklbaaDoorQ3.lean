/-
  Contracts: FramesPrint. Conditions: as each theorem says.
-/
import Derived.Test.YtapcgokcfmklbaaDoorQ2
import Derived.Test.YtapcgokcfmklbaaDoorC3x
import Derived.Test.YtapcgokcfmklbaaDoorC8
namespace Go.Proofs.YtapcgokcfmklbaaDoor
open Go Go.Proofs Go.RowKit

theorem ok20 : callOK Tryd.prog 20 = true := by kernel_rfl
theorem ok53 : callOK Tryd.prog 53 = true := by kernel_rfl
theorem ok57 : callOK Tryd.prog 57 = true := by kernel_rfl

theorem frErr_sm {X Y : Int} {a b n : Nat} (hn : n = 4 * (a * b)) (ha : 1 ≤ a ∧ a ≤ 8) (hb : 1 ≤ b ∧ b ≤ 8) (hX : -1000 ≤ X ∧ X ≤ 1000) (hY : -1000 ≤ Y ∧ Y ≤ 1000) : frErr X Y a b n = 0 ∧ regErr X Y a b = 0 := by
  have h6 : ((a * b : Nat) : Int) = (a : Int) * (b : Int) := Int.natCast_mul ..
  have h7 : 4 * (a : Int) * (b : Int) = 4 * ((a : Int) * (b : Int)) := Int.mul_assoc ..
  have h8 := regErr_small ha hb hX hY
  refine ⟨?_, h8⟩
  unfold frErr
  rw [h8, if_neg (by simp), if_neg (by omega)]
theorem fitV_32 {xs : List Nat} (h : ∀ x ∈ xs, x < 2 ^ 32) (wi he : Int) (i : Nat) : (fitV xs wi he).getD i 0 < 4294967296 := by
  rw [List.getD_eq_getElem?_getD]
  cases e : (fitV xs wi he)[i]? with
  | none => exact (by decide : (0 : Nat) < 4294967296)
  | some z =>
    have hz := List.mem_of_getElem? e
    unfold fitV at hz
    obtain ⟨j, _, rfl⟩ := List.mem_map.1 hz
    show fitv xs j < 4294967296
    unfold fitv
    split
    · rename_i hl
      rw [List.getD_eq_getElem?_getD, List.getElem?_eq_getElem (Nat.mod_lt j hl)]
      exact h _ (List.getElem_mem _)
    · decide
theorem fitB (x y wi he : Int) (A : Option Addr) (n c : Nat) (xs : List Nat) (W : World) (hn : xs.length = n) (hA : FS W A xs) (hlx : n ≤ maxLen) (h32 : ∀ x ∈ xs, x < 2 ^ 32) : Fn_ Tryd.prog 56 #[.agg #[iv x, iv y, iv wi, iv he, .slice A n c]] W (fun v H =>
    ∃ (g : Nat) (X Y : Int) (a b : Nat) (ys : List Nat), v = .agg #[iv X, iv Y, iv (a : Int), iv (b : Int), .slice (some ⟨g, 0, none⟩) ys.length ys.length] ∧ H = [⟨g, 36, ys.map flt⟩] ∧
      ys.length = 4 * (a * b) ∧ (1 ≤ a ∧ a ≤ 8) ∧ (1 ≤ b ∧ b ≤ 8) ∧ (-1000 ≤ X ∧ X ≤ 1000) ∧ (-1000 ≤ Y ∧ Y ≤ 1000) ∧ a * b ≤ 64 ∧ ∀ i, ys.getD i 0 < 4294967296) := by
  refine (fit x y wi he A n c xs W hn hA hlx).mono fun v H h => ?_
  obtain ⟨g, rfl, rfl⟩ := h
  have h1 := and7_bd wi
  have h2 := and7_bd he
  have h3 := clamp_bd x
  have h4 := clamp_bd y
  obtain ⟨a, ha⟩ : ∃ a : Nat, 1 + and7 wi = (a : Int) := ⟨(1 + and7 wi).toNat, by omega⟩
  obtain ⟨b, hb⟩ : ∃ b : Nat, 1 + and7 he = (b : Int) := ⟨(1 + and7 he).toNat, by omega⟩
  have h7 := fitN_eq wi he
  have h6 : ((a * b : Nat) : Int) = (a : Int) * (b : Int) := Int.natCast_mul ..
  have h8 : fitN wi he = 4 * (a * b) := by rw [ha, hb] at h7; omega
  have h9 : (fitV xs wi he).length = fitN wi he := fitV_len _ _ _
  have hab : a * b ≤ 64 := Nat.le_trans (Nat.mul_le_mul (show a ≤ 8 by omega) (show b ≤ 8 by omega)) (by decide)
  refine ⟨g, clamp x, clamp y, a, b, fitV xs wi he, by rw [ha, hb, h9], rfl, by rw [h9, h8], by omega, by omega, h3, h4, hab, fun i => fitV_32 h32 wi he i⟩
theorem clV_map (ys : List Nat) : clV (fun i => ys.getD i 0) ys.length = ys.map cl := by
  unfold clV
  apply List.ext_getElem
  · simp
  · intro i h1 h2
    simp at h1 h2
    simp [h2]
theorem PrR.good {l : List UInt8} {v : Value} {H : HL} {zs : List Nat} {X Y w h : Int} (hp : PrR l v H) (h0 : prsR l = (0, 0)) (hv : rowsV l (tX l 3).toNat = zs) (h1 : tX l 0 = X) (h2 : tX l 1 = Y) (h3 : tX l 2 = w) (h4 : tX l 3 = h) :
    ∃ g cap junk, v = .tuple #[.agg #[iv X, iv Y, iv w, iv h, .slice (some ⟨g, 0, none⟩) zs.length cap], iv 0, iv 0] ∧ H = [⟨g, 36, zs.map flt ++ junk⟩] ∧ zs.length ≤ cap ∧ cap ≤ maxLen := by
  rcases hp with ⟨h5, _⟩ | ⟨_, g, n, cap, junk, rfl, rfl, h6, h7, h8⟩
  · rw [h0] at h5; exact absurd rfl h5
  · rw [hv] at h6 ⊢
    subst h6
    rw [h1, h2, h3, h4]
    exact ⟨g, cap, junk, rfl, rfl, h7, h8⟩
theorem print_all {X Y : Int} {a b : Nat} {ys : List Nat} (hys : ys.length = 4 * (a * b)) (ha : 1 ≤ a ∧ a ≤ 8) (hb : 1 ≤ b ∧ b ≤ 8) (hX : -1000 ≤ X ∧ X ≤ 1000) (hY : -1000 ≤ Y ∧ Y ≤ 1000) (hab : a * b ≤ 64) (h32 : ∀ i, ys.getD i 0 < 4294967296) {v : Value} {H : HL}
    (hp : PrR (prtT X Y a b (fun i => ys.getD i 0)) v H) : ∃ g cap junk, v = .tuple #[.agg #[iv X, iv Y, iv (a : Int), iv (b : Int), .slice (some ⟨g, 0, none⟩) (ys.map cl).length cap], iv 0, iv 0] ∧ H = [⟨g, 36, (ys.map cl).map flt ++ junk⟩] ∧ (ys.map cl).length ≤ cap ∧ cap ≤ maxLen := by
  have h1 := prt_ok (x := X) (y := Y) (w := a) (h := b) (ys := fun i => ys.getD i 0) h32 (by omega) (by omega) (by omega) hab (by omega) (by omega) (frErr_sm hys ha hb hX hY).2
  have h2 := prt_hd (x := X) (y := Y) (w := a) (h := b) (show 0 < a by omega) (fun i => ys.getD i 0) (by omega) (by omega) (by omega) (by omega)
  exact hp.good h1.1 (h1.2.trans (by rw [← hys]; exact clV_map ys)) h2.2.1 h2.2.2.1 h2.2.2.2.1 h2.2.2.2.2

set_option maxHeartbeats 4000000 in
set_option maxRecDepth 100000 in
theorem framesPrint (x y wi he : Int) (A : Option Addr) (n c : Nat) (xs : List Nat) (W : World) (hn : xs.length = n) (hA : FS W A xs) (hlx : n ≤ maxLen) (h32 : ∀ x ∈ xs, x < 2 ^ 32) (m : Int) (hm : W.cell? ⟨1, 0, none⟩ = some (.int .i64 m)) (te3 : TypeId) (pe3 : Value) (te4 : TypeId) (pe4 : Value) (ht : Lib.TabIs Tryd.prog W "internal/strconv.uint64pow10" .u64 Lib.pow10Tab) (h3 : W.cell? ⟨3, 0, none⟩ = some (.iface te3 pe3)) (h4 : W.cell? ⟨4, 0, none⟩ = some (.iface te4 pe4)) (hdb : W.cell? ⟨8, 15, none⟩ = some (.int .u8 4)) : Fn_ Tryd.prog 10 #[.agg #[iv x, iv y, iv wi, iv he, .slice A n c]] W (fun v H => v = .bool true ∧ H = []) := by
  refine Fn_.intro Tryd.func10 rfl rfl (by rfl) ?_
  refine CS.seq ?_
  refine CS.region ?_
  refine RS.box rfl (by rfl) (by rfl) ?_
  intro g1
  refine RS.q rfl (QO.assign) ?_
  refine RS.nil ?_
  refine thenC_n ?_
  refine CS.seq ?_
  refine CS.seq ?_
  refine CS.region ?_
  refine RS.call rfl (by rfl) ok11 (by rfl) (fun w ho => landed _) ?_
  rintro _ _ ⟨rfl, rfl⟩
  refine RS.q rfl (QO.not (by rfl)) ?_
  refine RS.nil ?_
  refine thenC_n ?_
  refine CS.condF (by rfl) rfl ?_
  refine CS.skip ?_
  refine thenC_n ?_
  refine CS.seq ?_
  refine CS.region ?_
  first | (refine RS.q rfl (QO.loadB ty34 (by rfl) (by repeat (first | exact List.Mem.head _ | refine List.Mem.tail _ ?_)) (by rfl)) ?_) | (refine RS.q rfl (QO.loadA ty34 (by rfl) (by repeat (first | exact List.Mem.head _ | refine List.Mem.tail _ ?_)) (by rfl) (by rfl)) ?_) | (refine RS.q rfl (QO.loadOA ty34 (by rfl) (by assumption) (by rfl)) ?_)
  refine RS.call rfl (by rfl) ok56 (by rfl) (fun w ho => fitB x y wi he A n c xs _ hn (hA.own ho) hlx h32) ?_
  intro v10 H10 h10
  obtain ⟨gf, X, Y, a, b, ys, rfl, rfl, hys, ha, hb, hX, hY, hab, hy32⟩ := h10
  have hab1 : 1 ≤ a * b := Nat.mul_le_mul ha.1 hb.1
  have hfr := frErr_sm hys ha hb hX hY
  first | refine RS.storeB ty34 (by rfl) (by rfl) (by rfl) (by rfl) (by rfl) (by repeat (first | exact Upd.head | apply Upd.tail)) (by rfl) ?_ | refine RS.storeP ty34 (by rfl) (by rfl) (by rfl) (by rfl) (by rfl) (by repeat (first | exact Upd.head | apply Upd.tail)) (by rfl) ?_
  refine RS.nil ?_
  refine thenC_n ?_
  refine CS.seq ?_
  refine CS.region ?_
  first | (refine RS.q rfl (QO.loadB ty34 (by rfl) (by repeat (first | exact List.Mem.head _ | refine List.Mem.tail _ ?_)) (by rfl)) ?_) | (refine RS.q rfl (QO.loadA ty34 (by rfl) (by repeat (first | exact List.Mem.head _ | refine List.Mem.tail _ ?_)) (by rfl) (by rfl)) ?_) | (refine RS.q rfl (QO.loadOA ty34 (by rfl) (by assumption) (by rfl)) ?_)
  refine RS.call rfl (by rfl) ok20 (by rfl) (fun w ho => print_ X Y a b (some ⟨gf, 0, none⟩) ys.length ys.length ys _ rfl (FS.blk' ho (by repeat (first | exact List.Mem.head _ | refine List.Mem.tail _ ?_))) hfr.1 hys (by omega) (by omega) ha hb ⟨hab1, hab⟩ hy32 (ho.tab (g := 2) (by kernel_rfl) ht)) ?_
  rintro _ _ ⟨rfl, rfl⟩
  refine RS.q rfl (QO.move) ?_
  refine RS.q rfl (QO.extract (by rfl) (by rfl)) ?_
  refine RS.q rfl (QO.extract (by rfl) (by rfl)) ?_
  refine RS.q rfl (QO.assign) ?_
  refine RS.q rfl (QO.assign) ?_
  refine RS.nil ?_
  refine thenC_n ?_
  refine CS.seq ?_
  refine CS.seq ?_
  refine CS.region ?_
  refine RS.q rfl (QO.move) ?_
  refine RS.q rfl (QO.neq (by rfl) (by rfl)) ?_
  refine RS.q rfl (QO.move) ?_
  refine RS.on (dj := 18) rfl (congrArg Value.bool rfl) ?_
  refine RS.q rfl (QO.move) ?_
  refine RS.on (dj := 18) rfl (congrArg Value.bool rfl) ?_
  first | (refine RS.q rfl (QO.loadB ty34 (by rfl) (by repeat (first | exact List.Mem.head _ | refine List.Mem.tail _ ?_)) (by rfl)) ?_) | (refine RS.q rfl (QO.loadA ty34 (by rfl) (by repeat (first | exact List.Mem.head _ | refine List.Mem.tail _ ?_)) (by rfl) (by rfl)) ?_) | (refine RS.q rfl (QO.loadOA ty34 (by rfl) (by assumption) (by rfl)) ?_)
  refine RS.on (dj := 18) rfl (congrArg Value.bool rfl) ?_
  refine RS.call rfl (by rfl) ok57 (by rfl) (fun w ho => rprint_ X Y a b (some ⟨gf, 0, none⟩) ys.length ys.length ys _ rfl (FS.blk' ho (by repeat (first | exact List.Mem.head _ | refine List.Mem.tail _ ?_))) hfr.1 hys (by omega) (by omega) ha hb ⟨hab1, hab⟩ hy32 (ho.tab (g := 2) (by kernel_rfl) ht) (ho.old hdb)) ?_
  rintro _ _ ⟨rfl, rfl⟩
  refine RS.on (dj := 18) rfl (congrArg Value.bool rfl) ?_
  refine RS.qv rfl (QO.strne (by rfl) (by rfl)) (congrArg Value.bool (bne_self_eq_false _)) ?_
  refine RS.q rfl (QO.pickF (by rfl) rfl (by rfl)) ?_
  refine RS.nil ?_
  refine thenC_n ?_
  refine CS.condF (by rfl) rfl ?_
  refine CS.skip ?_
  refine thenC_n ?_
  refine CS.seq ?_
  refine CS.region ?_
  refine RS.q rfl (QO.move) ?_
  refine RS.call rfl (by rfl) ok53 (by rfl) (fun w ho => parse_ (prtT X Y a b (fun i => ys.getD i 0)) _ m (ho.old hm) te3 pe3 te4 pe4 (ho.tab (g := 2) (by kernel_rfl) ht) (ho.old h3) (ho.old h4)) ?_
  intro v26 H26 h26
  have hq26 := print_all hys ha hb hX hY hab hy32 h26
  clear h26
  obtain ⟨gp, cp, jp, rfl, rfl, hcp1, hcp2⟩ := hq26
  refine RS.q rfl (QO.move) ?_
  refine RS.q rfl (QO.extract (by rfl) (by rfl)) ?_
  refine RS.q rfl (QO.extract (by rfl) (by rfl)) ?_
  refine RS.q rfl (QO.extract (by rfl) (by rfl)) ?_
  refine RS.alloc rfl ty34 ?_
  intro g5
  first | refine RS.storeB ty34 (by rfl) (by rfl) (by rfl) (by rfl) (by rfl) (by repeat (first | exact Upd.head | apply Upd.tail)) (by rfl) ?_ | refine RS.storeP ty34 (by rfl) (by rfl) (by rfl) (by rfl) (by rfl) (by repeat (first | exact Upd.head | apply Upd.tail)) (by rfl) ?_
  refine RS.q rfl (QO.assign) ?_
  refine RS.q rfl (QO.assign) ?_
  refine RS.nil ?_
  refine thenC_n ?_
  refine CS.seq ?_
  refine CS.draw 13 rfl (by kernel_rfl) (by kernel_rfl) ?_
  refine RT.take (i := 0) rfl (by kernel_rfl) rfl (QO.move) ?_
  refine RT.take (i := 1) rfl (by kernel_rfl) rfl (QO.eql (by rfl) (by rfl)) ?_
  refine RT.take (i := 2) rfl (by kernel_rfl) rfl (QO.move) ?_
  refine RT.takeOn (i := 3) (dj := 32) rfl rfl (congrArg Value.bool rfl) (by kernel_rfl) rfl (QO.move) ?_
  refine RT.takeOn (i := 4) (dj := 32) rfl rfl (congrArg Value.bool rfl) (by kernel_rfl) rfl (QO.eql (by rfl) (by rfl)) ?_
  refine RT.take (i := 5) rfl (by kernel_rfl) rfl (QO.pickT (by rfl) rfl (by rfl)) ?_
  refine RT.take (i := 6) rfl (by kernel_rfl) rfl (QO.move) ?_
  first | (refine RT.takeOn (i := 7) (dj := 36) rfl rfl (congrArg Value.bool rfl) (by kernel_rfl) rfl (QO.loadB ty34 (by rfl) (by repeat (first | exact List.Mem.head _ | refine List.Mem.tail _ ?_)) (by rfl)) ?_) | (refine RT.takeOn (i := 7) (dj := 36) rfl rfl (congrArg Value.bool rfl) (by kernel_rfl) rfl (QO.loadA ty34 (by rfl) (by repeat (first | exact List.Mem.head _ | refine List.Mem.tail _ ?_)) (by rfl) (by rfl)) ?_) | (refine RT.takeOn (i := 7) (dj := 36) rfl rfl (congrArg Value.bool rfl) (by kernel_rfl) rfl (QO.loadOA ty34 (by rfl) (by assumption) (by rfl)) ?_)
  first | (refine RT.takeOn (i := 8) (dj := 36) rfl rfl (congrArg Value.bool rfl) (by kernel_rfl) rfl (QO.loadB ty34 (by rfl) (by repeat (first | exact List.Mem.head _ | refine List.Mem.tail _ ?_)) (by rfl)) ?_) | (refine RT.takeOn (i := 8) (dj := 36) rfl rfl (congrArg Value.bool rfl) (by kernel_rfl) rfl (QO.loadA ty34 (by rfl) (by repeat (first | exact List.Mem.head _ | refine List.Mem.tail _ ?_)) (by rfl) (by rfl)) ?_) | (refine RT.takeOn (i := 8) (dj := 36) rfl rfl (congrArg Value.bool rfl) (by kernel_rfl) rfl (QO.loadOA ty34 (by rfl) (by assumption) (by rfl)) ?_)
  refine RT.one (i := 9) (by kernel_rfl) rfl rfl ?_
  refine RS.on (dj := 36) rfl (congrArg Value.bool rfl) ?_
  refine RS.call rfl (by rfl) ok23 (by rfl) (fun w ho => rclean X Y a b (some ⟨gf, 0, none⟩) ys.length ys.length ys _ rfl (FS.blk' ho (by repeat (first | exact List.Mem.head _ | refine List.Mem.tail _ ?_))) hys (Nat.le_refl _) (by omega) (by omega) (by omega) (by omega)) ?_
  intro v39 H39 h39
  obtain ⟨gm, cm, jm, rfl, rfl, hcm1, hcm2⟩ := h39
  refine RS.nil ⟨(by repeat (first | exact List.Sublist.refl _ | exact List.nil_sublist _ | refine List.Sublist.cons_cons _ ?_ | refine List.Sublist.cons _ ?_ | exact Sbp.refl | exact Sbp.nil | refine Sbp.cons (by repeat (first | exact Rem.head | apply Rem.tail)) ?_ | exact Sbp.app | refine Sbp.skip ?_ | exact List.sublist_append_left _ _ | exact List.sublist_append_right _ _)), ?_⟩
  refine RT.one (i := 10) (by kernel_rfl) rfl rfl ?_
  refine RS.on (dj := 36) rfl (congrArg Value.bool rfl) ?_
  refine RS.call rfl (by rfl) ok22 (by rfl) (fun w ho => sameTrue X Y (a : Int) (b : Int) (some ⟨gp, 0, none⟩) (some ⟨gm, 0, none⟩) (ys.map cl).length (ys.map cl).length cp cm (ys.map cl) _ rfl rfl (FS.blk ho (by repeat (first | exact List.Mem.head _ | refine List.Mem.tail _ ?_))) (FS.blk ho (by repeat (first | exact List.Mem.head _ | refine List.Mem.tail _ ?_))) (Nat.le_trans hcp1 hcp2)) ?_
  rintro _ _ ⟨rfl, rfl⟩
  refine RS.nil ⟨(by repeat (first | exact List.Sublist.refl _ | exact List.nil_sublist _ | refine List.Sublist.cons_cons _ ?_ | refine List.Sublist.cons _ ?_ | exact Sbp.refl | exact Sbp.nil | refine Sbp.cons (by repeat (first | exact Rem.head | apply Rem.tail)) ?_ | exact Sbp.app | refine Sbp.skip ?_ | exact List.sublist_append_left _ _ | exact List.sublist_append_right _ _)), ?_⟩
  refine RT.take (i := 11) rfl (by kernel_rfl) rfl (QO.pickT (by rfl) rfl (by rfl)) ?_
  refine RT.take (i := 12) rfl (by kernel_rfl) rfl (QO.assign) ?_
  refine RT.done (by kernel_rfl) ?_
  refine thenC_n ?_
  refine CS.ret ?_
  refine retQ.mk (H' := []) (.inr rfl) (RVs.tmp (by rfl) RVs.nil) (List.nil_sublist _) ?_
  exact ⟨rfl, rfl⟩

end Go.Proofs.YtapcgokcfmklbaaDoor
