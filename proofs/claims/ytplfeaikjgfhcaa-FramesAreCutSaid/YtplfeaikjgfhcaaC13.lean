/-
  Contracts: FramesAreCut. Conditions: as each theorem says.
-/
import Derived.Test.YtplfeaikjgfhcaaC12
import Derived.Test.YtplfeaikjgfhcaaC9
namespace Go.Proofs.Ytplfeaikjgfhcaa
open Go Go.Proofs Go.RowKit

theorem ok94 : callOK Try.prog 94 = true := by kernel_rfl
theorem ok97 : callOK Try.prog 97 = true := by kernel_rfl
theorem ok98 : callOK Try.prog 98 = true := by kernel_rfl
theorem ok101 : callOK Try.prog 101 = true := by kernel_rfl
theorem ok102 : callOK Try.prog 102 = true := by kernel_rfl
theorem ok103 : callOK Try.prog 103 = true := by kernel_rfl
theorem ok104 : callOK Try.prog 104 = true := by kernel_rfl
theorem ok105 : callOK Try.prog 105 = true := by kernel_rfl
theorem ok106 : callOK Try.prog 106 = true := by kernel_rfl

theorem eqg35 : Try.prog.eqGuardType Try.prog.depth 35 = false := by kernel_rfl
theorem eqz35 (w : World) : (Op.equalIn 10000 35 (.agg #[flt 0, flt 0, flt 0, flt 0]) (.agg #[flt 0, flt 0, flt 0, flt 0])).run Try.prog w = .ok true w := by kernel_rfl
theorem QO.aneqC {P : Program} {W : World} {H : HL} {e : Env} {x y : Operand} {t t' ty : TypeId} {xs ys : Array Value} {b : Bool} (hx : ev e x = .agg xs) (hy : ev e y = .agg ys) (hg : P.eqGuardType P.depth t = false) (h : ∀ w, (Op.equalIn 10000 t (.agg xs) (.agg ys)).run P w = .ok b w) : QO P W H e (.binOp .neq t x y t') ty (.bool !b) := by
  refine QO.bin hx hy (fun w => ?_)
  simp only [Sem.run_bind, run_eqGuard_agg w .neq t x y _ _ hg, Result.andThen_ok, run_neq_struct, h]
theorem sameFW (err X Y wi he : Int) (vals vals2 : List Nat) (x y w_ h : Int) (A A' : Option Addr) (n c n' c' : Nat) (W : World) (h1 : FW err X Y wi he vals x y w_ h A n W) (e : err = 0) (hv : vals2 = vals) (hn' : vals2.length = n') (hA' : FS W A' vals2) :
    Fn_ Try.prog 33 #[.agg #[iv x, iv y, iv w_, iv h, .slice A n c], .agg #[iv X, iv Y, iv wi, iv he, .slice A' n' c']] W (fun v H => v = .bool true ∧ H = []) := by
  subst hv
  rcases h1 with h1 | ⟨_, rfl, rfl, rfl, rfl, rfl, h2, h3⟩
  · exact absurd e h1.1
  · exact sameTrue _ _ _ _ A A' _ n' c c' vals2 W rfl hn' h3 hA' h2
theorem atE_T {x y X Y : Int} {a b : Nat} (h : atB x y X Y a b = true) : atE x y X Y a b = 0 := if_pos h
theorem atE_F {x y X Y : Int} {a b : Nat} (h : atB x y X Y a b = false) : atE x y X Y a b = 5 := if_neg (by rw [h]; decide)
theorem pstE_T {X Y a b X2 Y2 a2 b2 : Int} (h : cmB X Y a b X2 Y2 a2 b2 = true) : pstE X Y a b X2 Y2 a2 b2 = 0 := if_pos h
theorem pstE_F {X Y a b X2 Y2 a2 b2 : Int} (h : cmB X Y a b X2 Y2 a2 b2 = false) : pstE X Y a b X2 Y2 a2 b2 = 5 := if_neg (by rw [h]; decide)
theorem cutE_T {rx ry rw_ rh X Y a b : Int} (h : regErr rx ry rw_ rh = 0) (h2 : insB rx ry rw_ rh X Y a b = true) : cutE rx ry rw_ rh X Y a b = 0 := cut_3 h h2
theorem put_paste {ys : List Nat} {q : Nat → Nat} {X Y x y : Int} {a b : Nat} (h : ys.length = 4 * (a * b)) : pstV ys (fillV q 4) X Y a b x y 1 1 = putV ys q X Y a b x y := (overV_paste h).symm
theorem fill_eq {q : Nat → Nat} {u s : Nat} : fillV q (4 * (u * s)) = fillV q (4 * (u : Int) * (s : Int)).toNat := by
  have h : ((u * s : Nat) : Int) = (u : Int) * (s : Int) := Int.natCast_mul ..
  rw [Int.mul_assoc, ← h]
  congr 1
theorem FV.n0 {err X Y wi he : Int} {vals : List Nat} {x y w h : Int} {A : Option Addr} {n : Nat} {H : HL} (hv : FV err X Y wi he vals x y w h A n H) (e : err ≠ 0) : n = 0 := by
  rcases hv with h | h
  · exact h.2.2.2.2.2
  · exact absurd h.1 e

theorem rcutI (X Y : Int) (a b : Nat) (A : Option Addr) (n c : Nat) (xs : List Nat) (rx ry rw_ rh : Int) (W : World) (hn : xs.length = n) (hA : FS W A xs) (hN : n = 4 * (a * b)) (hc : n ≤ c) (hcm : c ≤ maxLen) (hX : -1048576 ≤ X ∧ X ≤ 1048576) (hY : -1048576 ≤ Y ∧ Y ≤ 1048576) (ha : 1 ≤ a ∧ a ≤ 256) (hb : 1 ≤ b ∧ b ≤ 256) (hr0 : regErr rx ry rw_ rh = 0) :
    Fn_ Try.prog 103 #[.agg #[iv X, iv Y, iv (a : Int), iv (b : Int), .slice A n c], .agg #[iv rx, iv ry, iv rw_, iv rh]] W (fun v H => MadeR rx ry rw_ rh (cutV xs X Y a b rx ry rw_ rh) v H) := by
  have hr := regErr_ok hr0
  obtain ⟨u, rfl⟩ : ∃ u : Nat, rw_ = (u : Int) := ⟨rw_.toNat, by omega⟩
  obtain ⟨s, rfl⟩ : ∃ s : Nat, rh = (s : Int) := ⟨rh.toNat, by omega⟩
  exact rcut X Y a b A n c xs rx ry u s W hn hA hN hc hcm hX hY ha hb (by omega) (by omega) (by omega) (by omega)
theorem rfillI (rx ry rw_ rh : Int) (q : Nat → Nat) (g : Nat) (W : World) (hr0 : regErr rx ry rw_ rh = 0) (hg : ∀ wd Hd, Own W wd Hd → ∀ j v, [flt (q 0), flt (q 1), flt (q 2), flt (q 3)][j]? = some v → wd.cell? ((⟨g, 0, none⟩ : Addr).add j) = some v) :
    Fn_ Try.prog 95 #[.agg #[iv rx, iv ry, iv rw_, iv rh], .func (.func 96) #[] #[.pointer (some ⟨g, 0, none⟩)]] W (fun v H => MadeR rx ry rw_ rh (fillV q (4 * rw_ * rh).toNat) v H) := by
  have hr := regErr_ok hr0
  obtain ⟨u, rfl⟩ : ∃ u : Nat, rw_ = (u : Int) := ⟨rw_.toNat, by omega⟩
  obtain ⟨s, rfl⟩ : ∃ s : Nat, rh = (s : Int) := ⟨rh.toNat, by omega⟩
  refine (made' rx ry u s 96 #[.pointer (some ⟨g, 0, none⟩)] (fun _ _ c => q c) W (by kernel_rfl) (by omega) (by omega) (by omega) (by omega) (fun wd Hd hd X' Y' _ _ _ _ => cutlaw1 X' Y' g q wd (hg wd Hd hd))).mono fun v H h => ?_
  rw [← fill_eq]
  exact h

set_option maxHeartbeats 4000000 in
set_option maxRecDepth 100000 in
theorem framesAreCut (fx fy fw fh ex ey ew eh : Int) (A A2 : Option Addr) (n c n2 c2 : Nat) (xs xs2 : List Nat) (rx ry rw_ rh x y : Int) (q : Nat → Nat) (W : World) (hn : xs.length = n) (hA : FS W A xs) (hlx : n ≤ maxLen) (hn2 : xs2.length = n2) (hA2 : FS W A2 xs2) (hlx2 : n2 ≤ maxLen) (hbx : -9223372036854775808 ≤ rx ∧ rx ≤ 9223372036854775807) : Fn_ Try.prog 17 #[.agg #[iv fx, iv fy, iv fw, iv fh, .slice A n c], .agg #[iv ex, iv ey, iv ew, iv eh, .slice A2 n2 c2], .agg #[iv rx, iv ry, iv rw_, iv rh], iv x, iv y, pxv q] W (fun v H => v = .bool true ∧ H = []) := by
  refine Fn_.intro Try.func17 rfl rfl (by rfl) ?_
  refine CS.seq ?_
  refine CS.region ?_
  refine RS.box rfl (by rfl) (by rfl) ?_
  intro g6
  refine RS.box rfl (by rfl) (by rfl) ?_
  intro g7
  refine RS.box rfl (by rfl) (by rfl) ?_
  intro g8
  refine RS.box rfl (by rfl) (by rfl) ?_
  intro g11
  refine RS.q rfl (QO.assign) ?_
  refine RS.nil ?_
  refine thenC_n ?_
  refine CS.seq ?_
  refine CS.seq ?_
  refine CS.region ?_
  refine RS.call rfl (by rfl) ok19 (by rfl) (fun w ho => landed _) ?_
  rintro _ _ ⟨rfl, rfl⟩
  refine RS.q rfl (QO.not (by rfl)) ?_
  refine RS.nil ?_
  refine thenC_n ?_
  refine CS.condF (by rfl) rfl ?_
  refine CS.skip ?_
  refine thenC_n ?_
  refine CS.cut (X := FitS × FitS) [28, 29, 30, 31] (fun z => []) (fun z => [⟨g7, 26, [iv z.2.X, iv z.2.Y, iv (z.2.a : Int), iv (z.2.b : Int), .slice (some ⟨z.2.g, 0, none⟩) z.2.ys.length z.2.ys.length]⟩, ⟨g6, 26, [iv z.1.X, iv z.1.Y, iv (z.1.a : Int), iv (z.1.b : Int), .slice (some ⟨z.1.g, 0, none⟩) z.1.ys.length z.1.ys.length]⟩, ⟨z.2.g, 33, z.2.ys.map flt⟩, ⟨z.1.g, 33, z.1.ys.map flt⟩, ⟨g8, 23, [iv rx, iv ry, iv rw_, iv rh]⟩, ⟨g11, 35, [flt (q 0), flt (q 1), flt (q 2), flt (q 3)]⟩]) (fun z => z.1.ok ∧ z.2.ok) ?_ ?_
  · refine CS.drawS (HS := []) 6 (by repeat (first | exact List.Sublist.refl _ | exact List.nil_sublist _ | refine List.Sublist.cons_cons _ ?_ | refine List.Sublist.cons _ ?_ | exact Sbp.refl | exact Sbp.nil | refine Sbp.cons (by repeat (first | exact Rem.head | apply Rem.tail)) ?_ | exact Sbp.app | refine Sbp.skip ?_)) rfl (by kernel_rfl) (by kernel_rfl) ?_
    refine RT.two (i := 0) (j := 2) (by kernel_rfl) rfl rfl ?_ ?_
    · first | (refine RS.q rfl (QO.loadB ty26 (by rfl) (by repeat (first | exact List.Mem.head _ | refine List.Mem.tail _ ?_)) (by rfl)) ?_) | (refine RS.q rfl (QO.loadA ty26 (by rfl) (by repeat (first | exact List.Mem.head _ | refine List.Mem.tail _ ?_)) (by rfl) (by rfl)) ?_) | (refine RS.q rfl (QO.loadOA ty26 (by rfl) (by assumption) (by rfl)) ?_)
      refine RS.nil ⟨(by repeat (first | exact List.Sublist.refl _ | exact List.nil_sublist _ | refine List.Sublist.cons_cons _ ?_ | refine List.Sublist.cons _ ?_ | exact Sbp.refl | exact Sbp.nil | refine Sbp.cons (by repeat (first | exact Rem.head | apply Rem.tail)) ?_ | exact Sbp.app | refine Sbp.skip ?_)), ?_⟩
      refine RT.two (i := 1) (j := 2) (by kernel_rfl) rfl rfl ?_ ?_
      · refine RS.call rfl (by rfl) ok20 (by rfl) (fun w ho => fit' fx fy fw fh A n c xs w hn (hA.own ho) hlx) ?_
        intro v29 H29 h29
        obtain ⟨gf, X, Y, a, b, ys, rfl, rfl, hys, ha, hb, hX, hY, hab⟩ := h29
        refine RS.nil ⟨(by repeat (first | exact List.Sublist.refl _ | exact List.nil_sublist _ | refine List.Sublist.cons_cons _ ?_ | refine List.Sublist.cons _ ?_ | exact Sbp.refl | exact Sbp.nil | refine Sbp.cons (by repeat (first | exact Rem.head | apply Rem.tail)) ?_ | exact Sbp.app | refine Sbp.skip ?_)), ?_⟩
        refine RT.one (i := 2) (by kernel_rfl) rfl rfl ?_
        first | (refine RS.q rfl (QO.loadB ty26 (by rfl) (by repeat (first | exact List.Mem.head _ | refine List.Mem.tail _ ?_)) (by rfl)) ?_) | (refine RS.q rfl (QO.loadA ty26 (by rfl) (by repeat (first | exact List.Mem.head _ | refine List.Mem.tail _ ?_)) (by rfl) (by rfl)) ?_) | (refine RS.q rfl (QO.loadOA ty26 (by rfl) (by assumption) (by rfl)) ?_)
        refine RS.nil ⟨(by repeat (first | exact List.Sublist.refl _ | exact List.nil_sublist _ | refine List.Sublist.cons_cons _ ?_ | refine List.Sublist.cons _ ?_ | exact Sbp.refl | exact Sbp.nil | refine Sbp.cons (by repeat (first | exact Rem.head | apply Rem.tail)) ?_ | exact Sbp.app | refine Sbp.skip ?_)), ?_⟩
        refine RT.one (i := 3) (by kernel_rfl) rfl rfl ?_
        refine RS.call rfl (by rfl) ok20 (by rfl) (fun w ho => fit' ex ey ew eh A2 n2 c2 xs2 w hn2 (hA2.own ho) hlx2) ?_
        intro v31 H31 h31
        obtain ⟨gf2, X2, Y2, a2, b2, zs, rfl, rfl, hzs, ha2, hb2, hX2, hY2, hab2⟩ := h31
        refine RS.nil ⟨(by repeat (first | exact List.Sublist.refl _ | exact List.nil_sublist _ | refine List.Sublist.cons_cons _ ?_ | refine List.Sublist.cons _ ?_ | exact Sbp.refl | exact Sbp.nil | refine Sbp.cons (by repeat (first | exact Rem.head | apply Rem.tail)) ?_ | exact Sbp.app | refine Sbp.skip ?_)), ?_⟩
        refine RT.one (i := 4) (by kernel_rfl) rfl rfl ?_
        first | refine RS.storeB ty26 (by rfl) (by rfl) (by rfl) (by rfl) (by rfl) (by repeat (first | exact Upd.head | apply Upd.tail)) (by rfl) ?_ | refine RS.storeP ty26 (by rfl) (by rfl) (by rfl) (by rfl) (by rfl) (by repeat (first | exact Upd.head | apply Upd.tail)) (by rfl) ?_
        refine RS.nil ⟨(by repeat (first | exact List.Sublist.refl _ | exact List.nil_sublist _ | refine List.Sublist.cons_cons _ ?_ | refine List.Sublist.cons _ ?_ | exact Sbp.refl | exact Sbp.nil | refine Sbp.cons (by repeat (first | exact Rem.head | apply Rem.tail)) ?_ | exact Sbp.app | refine Sbp.skip ?_)), ?_⟩
        refine RT.one (i := 5) (by kernel_rfl) rfl rfl ?_
        first | refine RS.storeB ty26 (by rfl) (by rfl) (by rfl) (by rfl) (by rfl) (by repeat (first | exact Upd.head | apply Upd.tail)) (by rfl) ?_ | refine RS.storeP ty26 (by rfl) (by rfl) (by rfl) (by rfl) (by rfl) (by repeat (first | exact Upd.head | apply Upd.tail)) (by rfl) ?_
        refine RS.nil ⟨(by repeat (first | exact List.Sublist.refl _ | exact List.nil_sublist _ | refine List.Sublist.cons_cons _ ?_ | refine List.Sublist.cons _ ?_ | exact Sbp.refl | exact Sbp.nil | refine Sbp.cons (by repeat (first | exact Rem.head | apply Rem.tail)) ?_ | exact Sbp.app | refine Sbp.skip ?_)), ?_⟩
        refine RT.done (by kernel_rfl) ?_
        refine cutQ_n (by intro t ht; repeat (first | exact frame_puts ht (frame_mix ht) _ rfl | (refine frame_put rfl ht ?_) | (refine frame_puts ht ?_ _ rfl) | exact frame_mix ht | (refine frame_mix2 rfl ht ?_) | exact rfl)) ?_
        exact ⟨(⟨X, Y, a, b, gf, ys⟩, ⟨X2, Y2, a2, b2, gf2, zs⟩), ⟨⟨hys, ha, hb, hX, hY, hab⟩, ⟨hzs, ha2, hb2, hX2, hY2, hab2⟩⟩, (by repeat (first | exact kn_nil | refine kn_cons (by rfl) ?_)), (by repeat (first | exact List.Sublist.refl _ | exact List.nil_sublist _ | refine List.Sublist.cons_cons _ ?_ | refine List.Sublist.cons _ ?_ | exact Sbp.refl | exact Sbp.nil | refine Sbp.cons (by repeat (first | exact Rem.head | apply Rem.tail)) ?_ | exact Sbp.app | refine Sbp.skip ?_))⟩
      · first | (refine RS.q rfl (QO.loadB ty26 (by rfl) (by repeat (first | exact List.Mem.head _ | refine List.Mem.tail _ ?_)) (by rfl)) ?_) | (refine RS.q rfl (QO.loadA ty26 (by rfl) (by repeat (first | exact List.Mem.head _ | refine List.Mem.tail _ ?_)) (by rfl) (by rfl)) ?_) | (refine RS.q rfl (QO.loadOA ty26 (by rfl) (by assumption) (by rfl)) ?_)
        refine RS.nil ⟨(by repeat (first | exact List.Sublist.refl _ | exact List.nil_sublist _ | refine List.Sublist.cons_cons _ ?_ | refine List.Sublist.cons _ ?_ | exact Sbp.refl | exact Sbp.nil | refine Sbp.cons (by repeat (first | exact Rem.head | apply Rem.tail)) ?_ | exact Sbp.app | refine Sbp.skip ?_)), ?_⟩
        refine RT.one (i := 1) (by kernel_rfl) rfl rfl ?_
        refine RS.call rfl (by rfl) ok20 (by rfl) (fun w ho => fit' fx fy fw fh A n c xs w hn (hA.own ho) hlx) ?_
        intro v29 H29 h29
        obtain ⟨gf, X, Y, a, b, ys, rfl, rfl, hys, ha, hb, hX, hY, hab⟩ := h29
        refine RS.nil ⟨(by repeat (first | exact List.Sublist.refl _ | exact List.nil_sublist _ | refine List.Sublist.cons_cons _ ?_ | refine List.Sublist.cons _ ?_ | exact Sbp.refl | exact Sbp.nil | refine Sbp.cons (by repeat (first | exact Rem.head | apply Rem.tail)) ?_ | exact Sbp.app | refine Sbp.skip ?_)), ?_⟩
        refine RT.one (i := 3) (by kernel_rfl) rfl rfl ?_
        refine RS.call rfl (by rfl) ok20 (by rfl) (fun w ho => fit' ex ey ew eh A2 n2 c2 xs2 w hn2 (hA2.own ho) hlx2) ?_
        intro v31 H31 h31
        obtain ⟨gf2, X2, Y2, a2, b2, zs, rfl, rfl, hzs, ha2, hb2, hX2, hY2, hab2⟩ := h31
        refine RS.nil ⟨(by repeat (first | exact List.Sublist.refl _ | exact List.nil_sublist _ | refine List.Sublist.cons_cons _ ?_ | refine List.Sublist.cons _ ?_ | exact Sbp.refl | exact Sbp.nil | refine Sbp.cons (by repeat (first | exact Rem.head | apply Rem.tail)) ?_ | exact Sbp.app | refine Sbp.skip ?_)), ?_⟩
        refine RT.one (i := 4) (by kernel_rfl) rfl rfl ?_
        first | refine RS.storeB ty26 (by rfl) (by rfl) (by rfl) (by rfl) (by rfl) (by repeat (first | exact Upd.head | apply Upd.tail)) (by rfl) ?_ | refine RS.storeP ty26 (by rfl) (by rfl) (by rfl) (by rfl) (by rfl) (by repeat (first | exact Upd.head | apply Upd.tail)) (by rfl) ?_
        refine RS.nil ⟨(by repeat (first | exact List.Sublist.refl _ | exact List.nil_sublist _ | refine List.Sublist.cons_cons _ ?_ | refine List.Sublist.cons _ ?_ | exact Sbp.refl | exact Sbp.nil | refine Sbp.cons (by repeat (first | exact Rem.head | apply Rem.tail)) ?_ | exact Sbp.app | refine Sbp.skip ?_)), ?_⟩
        refine RT.one (i := 5) (by kernel_rfl) rfl rfl ?_
        first | refine RS.storeB ty26 (by rfl) (by rfl) (by rfl) (by rfl) (by rfl) (by repeat (first | exact Upd.head | apply Upd.tail)) (by rfl) ?_ | refine RS.storeP ty26 (by rfl) (by rfl) (by rfl) (by rfl) (by rfl) (by repeat (first | exact Upd.head | apply Upd.tail)) (by rfl) ?_
        refine RS.nil ⟨(by repeat (first | exact List.Sublist.refl _ | exact List.nil_sublist _ | refine List.Sublist.cons_cons _ ?_ | refine List.Sublist.cons _ ?_ | exact Sbp.refl | exact Sbp.nil | refine Sbp.cons (by repeat (first | exact Rem.head | apply Rem.tail)) ?_ | exact Sbp.app | refine Sbp.skip ?_)), ?_⟩
        refine RT.done (by kernel_rfl) ?_
        refine cutQ_n (by intro t ht; repeat (first | exact frame_puts ht (frame_mix ht) _ rfl | (refine frame_put rfl ht ?_) | (refine frame_puts ht ?_ _ rfl) | exact frame_mix ht | (refine frame_mix2 rfl ht ?_) | exact rfl)) ?_
        exact ⟨(⟨X, Y, a, b, gf, ys⟩, ⟨X2, Y2, a2, b2, gf2, zs⟩), ⟨⟨hys, ha, hb, hX, hY, hab⟩, ⟨hzs, ha2, hb2, hX2, hY2, hab2⟩⟩, (by repeat (first | exact kn_nil | refine kn_cons (by rfl) ?_)), (by repeat (first | exact List.Sublist.refl _ | exact List.nil_sublist _ | refine List.Sublist.cons_cons _ ?_ | refine List.Sublist.cons _ ?_ | exact Sbp.refl | exact Sbp.nil | refine Sbp.cons (by repeat (first | exact Rem.head | apply Rem.tail)) ?_ | exact Sbp.app | refine Sbp.skip ?_))⟩
    · first | (refine RS.q rfl (QO.loadB ty26 (by rfl) (by repeat (first | exact List.Mem.head _ | refine List.Mem.tail _ ?_)) (by rfl)) ?_) | (refine RS.q rfl (QO.loadA ty26 (by rfl) (by repeat (first | exact List.Mem.head _ | refine List.Mem.tail _ ?_)) (by rfl) (by rfl)) ?_) | (refine RS.q rfl (QO.loadOA ty26 (by rfl) (by assumption) (by rfl)) ?_)
      refine RS.nil ⟨(by repeat (first | exact List.Sublist.refl _ | exact List.nil_sublist _ | refine List.Sublist.cons_cons _ ?_ | refine List.Sublist.cons _ ?_ | exact Sbp.refl | exact Sbp.nil | refine Sbp.cons (by repeat (first | exact Rem.head | apply Rem.tail)) ?_ | exact Sbp.app | refine Sbp.skip ?_)), ?_⟩
      refine RT.one (i := 0) (by kernel_rfl) rfl rfl ?_
      first | (refine RS.q rfl (QO.loadB ty26 (by rfl) (by repeat (first | exact List.Mem.head _ | refine List.Mem.tail _ ?_)) (by rfl)) ?_) | (refine RS.q rfl (QO.loadA ty26 (by rfl) (by repeat (first | exact List.Mem.head _ | refine List.Mem.tail _ ?_)) (by rfl) (by rfl)) ?_) | (refine RS.q rfl (QO.loadOA ty26 (by rfl) (by assumption) (by rfl)) ?_)
      refine RS.nil ⟨(by repeat (first | exact List.Sublist.refl _ | exact List.nil_sublist _ | refine List.Sublist.cons_cons _ ?_ | refine List.Sublist.cons _ ?_ | exact Sbp.refl | exact Sbp.nil | refine Sbp.cons (by repeat (first | exact Rem.head | apply Rem.tail)) ?_ | exact Sbp.app | refine Sbp.skip ?_)), ?_⟩
      refine RT.one (i := 1) (by kernel_rfl) rfl rfl ?_
      refine RS.call rfl (by rfl) ok20 (by rfl) (fun w ho => fit' fx fy fw fh A n c xs w hn (hA.own ho) hlx) ?_
      intro v29 H29 h29
      obtain ⟨gf, X, Y, a, b, ys, rfl, rfl, hys, ha, hb, hX, hY, hab⟩ := h29
      refine RS.nil ⟨(by repeat (first | exact List.Sublist.refl _ | exact List.nil_sublist _ | refine List.Sublist.cons_cons _ ?_ | refine List.Sublist.cons _ ?_ | exact Sbp.refl | exact Sbp.nil | refine Sbp.cons (by repeat (first | exact Rem.head | apply Rem.tail)) ?_ | exact Sbp.app | refine Sbp.skip ?_)), ?_⟩
      refine RT.one (i := 3) (by kernel_rfl) rfl rfl ?_
      refine RS.call rfl (by rfl) ok20 (by rfl) (fun w ho => fit' ex ey ew eh A2 n2 c2 xs2 w hn2 (hA2.own ho) hlx2) ?_
      intro v31 H31 h31
      obtain ⟨gf2, X2, Y2, a2, b2, zs, rfl, rfl, hzs, ha2, hb2, hX2, hY2, hab2⟩ := h31
      refine RS.nil ⟨(by repeat (first | exact List.Sublist.refl _ | exact List.nil_sublist _ | refine List.Sublist.cons_cons _ ?_ | refine List.Sublist.cons _ ?_ | exact Sbp.refl | exact Sbp.nil | refine Sbp.cons (by repeat (first | exact Rem.head | apply Rem.tail)) ?_ | exact Sbp.app | refine Sbp.skip ?_)), ?_⟩
      refine RT.one (i := 4) (by kernel_rfl) rfl rfl ?_
      first | refine RS.storeB ty26 (by rfl) (by rfl) (by rfl) (by rfl) (by rfl) (by repeat (first | exact Upd.head | apply Upd.tail)) (by rfl) ?_ | refine RS.storeP ty26 (by rfl) (by rfl) (by rfl) (by rfl) (by rfl) (by repeat (first | exact Upd.head | apply Upd.tail)) (by rfl) ?_
      refine RS.nil ⟨(by repeat (first | exact List.Sublist.refl _ | exact List.nil_sublist _ | refine List.Sublist.cons_cons _ ?_ | refine List.Sublist.cons _ ?_ | exact Sbp.refl | exact Sbp.nil | refine Sbp.cons (by repeat (first | exact Rem.head | apply Rem.tail)) ?_ | exact Sbp.app | refine Sbp.skip ?_)), ?_⟩
      refine RT.one (i := 5) (by kernel_rfl) rfl rfl ?_
      first | refine RS.storeB ty26 (by rfl) (by rfl) (by rfl) (by rfl) (by rfl) (by repeat (first | exact Upd.head | apply Upd.tail)) (by rfl) ?_ | refine RS.storeP ty26 (by rfl) (by rfl) (by rfl) (by rfl) (by rfl) (by repeat (first | exact Upd.head | apply Upd.tail)) (by rfl) ?_
      refine RS.nil ⟨(by repeat (first | exact List.Sublist.refl _ | exact List.nil_sublist _ | refine List.Sublist.cons_cons _ ?_ | refine List.Sublist.cons _ ?_ | exact Sbp.refl | exact Sbp.nil | refine Sbp.cons (by repeat (first | exact Rem.head | apply Rem.tail)) ?_ | exact Sbp.app | refine Sbp.skip ?_)), ?_⟩
      refine RT.done (by kernel_rfl) ?_
      refine cutQ_n (by intro t ht; repeat (first | exact frame_puts ht (frame_mix ht) _ rfl | (refine frame_put rfl ht ?_) | (refine frame_puts ht ?_ _ rfl) | exact frame_mix ht | (refine frame_mix2 rfl ht ?_) | exact rfl)) ?_
      exact ⟨(⟨X, Y, a, b, gf, ys⟩, ⟨X2, Y2, a2, b2, gf2, zs⟩), ⟨⟨hys, ha, hb, hX, hY, hab⟩, ⟨hzs, ha2, hb2, hX2, hY2, hab2⟩⟩, (by repeat (first | exact kn_nil | refine kn_cons (by rfl) ?_)), (by repeat (first | exact List.Sublist.refl _ | exact List.nil_sublist _ | refine List.Sublist.cons_cons _ ?_ | refine List.Sublist.cons _ ?_ | exact Sbp.refl | exact Sbp.nil | refine Sbp.cons (by repeat (first | exact Rem.head | apply Rem.tail)) ?_ | exact Sbp.app | refine Sbp.skip ?_))⟩
  · intro z gj hz
    obtain ⟨⟨X, Y, a, b, gf, ys⟩, ⟨X2, Y2, a2, b2, gf2, zs⟩⟩ := z
    obtain ⟨⟨hys, ha, hb, hX, hY, hab⟩, ⟨hzs, ha2, hb2, hX2, hY2, hab2⟩⟩ := hz
    simp only at hys ha hb hX hY hab hzs ha2 hb2 hX2 hY2 hab2
    have hpos := Nat.mul_le_mul ha.1 hb.1
    have hpos0 := Nat.mul_le_mul ha2.1 hb2.1
    show CS _ _ _ _ _ (puts (mix _ _ _) []) ([⟨g7, 26, [iv X2, iv Y2, iv (a2 : Int), iv (b2 : Int), .slice (some ⟨gf2, 0, none⟩) zs.length zs.length]⟩, ⟨g6, 26, [iv X, iv Y, iv (a : Int), iv (b : Int), .slice (some ⟨gf, 0, none⟩) ys.length ys.length]⟩, ⟨gf2, 33, zs.map flt⟩, ⟨gf, 33, ys.map flt⟩, ⟨g8, 23, [iv rx, iv ry, iv rw_, iv rh]⟩, ⟨g11, 35, [flt (q 0), flt (q 1), flt (q 2), flt (q 3)]⟩])
    refine CS.seq ?_
    refine CS.region ?_
    first | (refine RS.q rfl (QO.loadB ty23 (by rfl) (by repeat (first | exact List.Mem.head _ | refine List.Mem.tail _ ?_)) (by rfl)) ?_) | (refine RS.q rfl (QO.loadA ty23 (by rfl) (by repeat (first | exact List.Mem.head _ | refine List.Mem.tail _ ?_)) (by rfl) (by rfl)) ?_) | (refine RS.q rfl (QO.loadOA ty23 (by rfl) (by assumption) (by rfl)) ?_)
    first | (refine RS.q rfl (QO.loadB ty35 (by rfl) (by repeat (first | exact List.Mem.head _ | refine List.Mem.tail _ ?_)) (by rfl)) ?_) | (refine RS.q rfl (QO.loadA ty35 (by rfl) (by repeat (first | exact List.Mem.head _ | refine List.Mem.tail _ ?_)) (by rfl) (by rfl)) ?_) | (refine RS.q rfl (QO.loadOA ty35 (by rfl) (by assumption) (by rfl)) ?_)
    refine RS.call rfl (by rfl) ok94 (by rfl) (fun w ho => fill_ rx ry rw_ rh q _) ?_
    intro v35 H35 h35
    have k35 := h35.any
    clear h35
    obtain ⟨u_a, v_a, w_a, h_a, A_a, n_a, c_a, rfl, hva⟩ := k35
    refine RS.perm List.perm_append_comm ?_
    refine RS.q rfl (QO.move) ?_
    refine RS.q rfl (QO.extract (by rfl) (by rfl)) ?_
    refine RS.q rfl (QO.extract (by rfl) (by rfl)) ?_
    refine RS.alloc rfl ty26 ?_
    intro g13
    first | refine RS.storeB ty26 (by rfl) (by rfl) (by rfl) (by rfl) (by rfl) (by repeat (first | exact Upd.head | apply Upd.tail)) (by rfl) ?_ | refine RS.storeP ty26 (by rfl) (by rfl) (by rfl) (by rfl) (by rfl) (by repeat (first | exact Upd.head | apply Upd.tail)) (by rfl) ?_
    refine RS.q rfl (QO.assign) ?_
    refine RS.nil ?_
    refine thenC_n ?_
    refine CS.seq ?_
    refine CS.region ?_
    first | (refine RS.q rfl (QO.loadB ty23 (by rfl) (by repeat (first | exact List.Mem.head _ | refine List.Mem.tail _ ?_)) (by rfl)) ?_) | (refine RS.q rfl (QO.loadA ty23 (by rfl) (by repeat (first | exact List.Mem.head _ | refine List.Mem.tail _ ?_)) (by rfl) (by rfl)) ?_) | (refine RS.q rfl (QO.loadOA ty23 (by rfl) (by assumption) (by rfl)) ?_)
    refine RS.call rfl (by rfl) ok35 (by rfl) (fun w ho => regionError rx ry rw_ rh _ hbx) ?_
    rintro _ _ ⟨rfl, rfl⟩
    refine RS.q rfl (QO.assign) ?_
    refine RS.nil ?_
    refine thenC_n ?_
    refine CS.cut (X := Unit) (12 :: 40 :: 41 :: 42 :: 43 :: 44 :: 45 :: 46 :: 47 :: 48 :: 49 :: 50 :: 51 :: 52 :: 53 :: 54 :: []) (fun z => []) (fun z => [⟨g7, 26, [iv X2, iv Y2, iv (a2 : Int), iv (b2 : Int), .slice (some ⟨gf2, 0, none⟩) zs.length zs.length]⟩, ⟨g6, 26, [iv X, iv Y, iv (a : Int), iv (b : Int), .slice (some ⟨gf, 0, none⟩) ys.length ys.length]⟩, ⟨gf2, 33, zs.map flt⟩, ⟨gf, 33, ys.map flt⟩, ⟨g8, 23, [iv rx, iv ry, iv rw_, iv rh]⟩, ⟨g11, 35, [flt (q 0), flt (q 1), flt (q 2), flt (q 3)]⟩]) (fun z => True) ?_ ?_
    · refine CS.seq ?_
      refine CS.draw 15 rfl (by kernel_rfl) (by kernel_rfl) ?_
      refine RT.take (i := 0) rfl (by kernel_rfl) rfl (QO.move) ?_
      refine RT.take (i := 1) rfl (by kernel_rfl) rfl (QO.move) ?_
      refine RT.takev (i := 2) rfl (by kernel_rfl) rfl (QO.neq (by rfl) (by rfl)) (congrArg Value.bool (bne_self_eq_false _)) ?_
      refine RT.take (i := 3) rfl (by kernel_rfl) rfl (QO.move) ?_
      refine RT.takeOn (i := 4) (dj := 43) rfl rfl (congrArg Value.bool rfl) (by kernel_rfl) rfl (QO.move) ?_
      refine RT.takeOn (i := 5) (dj := 43) rfl rfl (congrArg Value.bool rfl) (by kernel_rfl) rfl (QO.eql (by rfl) (by rfl)) ?_
      refine RT.takeOn (i := 6) (dj := 43) rfl rfl (congrArg Value.bool rfl) (by kernel_rfl) rfl (QO.move) ?_
      refine RT.split (dj := 46) (by rfl) (fun hb0 => ?_) (fun hb0 => ?_)
      · have hb0p := eq_of_beq hb0
        first | (refine RT.takeOn (i := 7) (dj := 46) rfl rfl (congrArg Value.bool hb0) (by kernel_rfl) rfl (QO.loadB ty26 (by rfl) (by repeat (first | exact List.Mem.head _ | refine List.Mem.tail _ ?_)) (by rfl)) ?_) | (refine RT.takeOn (i := 7) (dj := 46) rfl rfl (congrArg Value.bool hb0) (by kernel_rfl) rfl (QO.loadA ty26 (by rfl) (by repeat (first | exact List.Mem.head _ | refine List.Mem.tail _ ?_)) (by rfl) (by rfl)) ?_) | (refine RT.takeOn (i := 7) (dj := 46) rfl rfl (congrArg Value.bool hb0) (by kernel_rfl) rfl (QO.loadOA ty26 (by rfl) (by assumption) (by rfl)) ?_)
        first | (refine RT.takeOn (i := 8) (dj := 46) rfl rfl (congrArg Value.bool hb0) (by kernel_rfl) rfl (QO.loadB ty23 (by rfl) (by repeat (first | exact List.Mem.head _ | refine List.Mem.tail _ ?_)) (by rfl)) ?_) | (refine RT.takeOn (i := 8) (dj := 46) rfl rfl (congrArg Value.bool hb0) (by kernel_rfl) rfl (QO.loadA ty23 (by rfl) (by repeat (first | exact List.Mem.head _ | refine List.Mem.tail _ ?_)) (by rfl) (by rfl)) ?_) | (refine RT.takeOn (i := 8) (dj := 46) rfl rfl (congrArg Value.bool hb0) (by kernel_rfl) rfl (QO.loadOA ty23 (by rfl) (by assumption) (by rfl)) ?_)
        refine RT.takeOn (i := 9) (dj := 46) rfl rfl (congrArg Value.bool hb0) (by kernel_rfl) rfl (QO.makeFunc) ?_
        refine RT.one (i := 10) (by kernel_rfl) rfl rfl ?_
        refine RS.on (dj := 46) rfl (congrArg Value.bool hb0) ?_
        refine RS.call rfl (by rfl) ok95 (by rfl) (fun w ho => rfillI rx ry rw_ rh q g11 _ (by assumption) (fun wd Hd hd j v hj => hd.old (ho.cellAt (by repeat (first | exact List.Mem.head _ | refine List.Mem.tail _ ?_)) hj))) ?_
        intro v50 H50 h50
        obtain ⟨gm50, cm50, jm50, rfl, rfl, hcm50, hcx50⟩ := h50
        refine RS.nil ⟨(by repeat (first | exact List.Sublist.refl _ | exact List.nil_sublist _ | refine List.Sublist.cons_cons _ ?_ | refine List.Sublist.cons _ ?_ | exact Sbp.refl | exact Sbp.nil | refine Sbp.cons (by repeat (first | exact Rem.head | apply Rem.tail)) ?_ | exact Sbp.app | refine Sbp.skip ?_)), ?_⟩
        refine RT.one (i := 11) (by kernel_rfl) rfl rfl ?_
        refine RS.on (dj := 46) rfl (congrArg Value.bool hb0) ?_
        refine RS.call rfl (by rfl) ok33 (by rfl) (fun w ho => sameFW (regErr rx ry rw_ rh) rx ry rw_ rh (fillV q (4 * rw_ * rh).toNat) (fillV q (4 * rw_ * rh).toNat) _ _ _ _ _ _ _ _ _ _ w (hva.fw ho (fun q hq => by simp [hq])) (by assumption) rfl (by rfl) (FS.blk ho (by repeat (first | exact List.Mem.head _ | refine List.Mem.tail _ ?_)))) ?_
        rintro _ _ ⟨rfl, rfl⟩
        refine RS.nil ⟨(by repeat (first | exact List.Sublist.refl _ | exact List.nil_sublist _ | refine List.Sublist.cons_cons _ ?_ | refine List.Sublist.cons _ ?_ | exact Sbp.refl | exact Sbp.nil | refine Sbp.cons (by repeat (first | exact Rem.head | apply Rem.tail)) ?_ | exact Sbp.app | refine Sbp.skip ?_)), ?_⟩
        refine RT.takeOn (i := 12) (dj := 46) rfl rfl (congrArg Value.bool hb0) (by kernel_rfl) rfl (QO.not (by rfl)) ?_
        refine RT.takeOn (i := 13) (dj := 43) rfl rfl (congrArg Value.bool rfl) (by kernel_rfl) rfl (QO.pickT (by rfl) hb0 (by rfl)) ?_
        refine RT.take (i := 14) rfl (by kernel_rfl) rfl (QO.pickF (by rfl) rfl (by rfl)) ?_
        refine RT.done (by kernel_rfl) ?_
        refine thenC_n ?_
        refine CS.condF (by rfl) rfl ?_
        refine CS.skip ?_
        refine cutQ_n (by intro t ht; repeat (first | exact frame_puts ht (frame_mix ht) _ rfl | (refine frame_put rfl ht ?_) | (refine frame_puts ht ?_ _ rfl) | exact frame_mix ht | (refine frame_mix2 rfl ht ?_) | exact rfl)) ?_
        exact ⟨(), trivial, (by repeat (first | exact kn_nil | refine kn_cons (by rfl) ?_)), (by repeat (first | exact List.Sublist.refl _ | exact List.nil_sublist _ | refine List.Sublist.cons_cons _ ?_ | refine List.Sublist.cons _ ?_ | exact Sbp.refl | exact Sbp.nil | refine Sbp.cons (by repeat (first | exact Rem.head | apply Rem.tail)) ?_ | exact Sbp.app | refine Sbp.skip ?_))⟩
      · have hb0p := ne_of_beq_false hb0
        refine RT.takeOff (i := 7) (dj := 46) rfl rfl (.inl (congrArg Value.bool hb0)) (fun _ => rfl) (by kernel_rfl) rfl ?_
        refine RT.takeOff (i := 8) (dj := 46) rfl rfl (.inl (congrArg Value.bool hb0)) (fun _ => rfl) (by kernel_rfl) rfl ?_
        refine RT.takeOff (i := 9) (dj := 46) rfl rfl (.inl (congrArg Value.bool hb0)) (fun _ => rfl) (by kernel_rfl) rfl ?_
        refine RT.one (i := 10) (by kernel_rfl) rfl rfl ?_
        refine RS.off (dj := 46) rfl (.inl (congrArg Value.bool hb0)) (fun _ => rfl) rfl ?_
        refine RS.nil ⟨(by repeat (first | exact List.Sublist.refl _ | exact List.nil_sublist _ | refine List.Sublist.cons_cons _ ?_ | refine List.Sublist.cons _ ?_ | exact Sbp.refl | exact Sbp.nil | refine Sbp.cons (by repeat (first | exact Rem.head | apply Rem.tail)) ?_ | exact Sbp.app | refine Sbp.skip ?_)), ?_⟩
        refine RT.one (i := 11) (by kernel_rfl) rfl rfl ?_
        refine RS.off (dj := 46) rfl (.inl (congrArg Value.bool hb0)) (fun _ => rfl) rfl ?_
        refine RS.nil ⟨(by repeat (first | exact List.Sublist.refl _ | exact List.nil_sublist _ | refine List.Sublist.cons_cons _ ?_ | refine List.Sublist.cons _ ?_ | exact Sbp.refl | exact Sbp.nil | refine Sbp.cons (by repeat (first | exact Rem.head | apply Rem.tail)) ?_ | exact Sbp.app | refine Sbp.skip ?_)), ?_⟩
        refine RT.takeOff (i := 12) (dj := 46) rfl rfl (.inl (congrArg Value.bool hb0)) (fun _ => rfl) (by kernel_rfl) rfl ?_
        refine RT.takeOn (i := 13) (dj := 43) rfl rfl (congrArg Value.bool rfl) (by kernel_rfl) rfl (QO.pickF (by rfl) hb0 (by rfl)) ?_
        refine RT.take (i := 14) rfl (by kernel_rfl) rfl (QO.pickF (by rfl) rfl (by rfl)) ?_
        refine RT.done (by kernel_rfl) ?_
        refine thenC_n ?_
        refine CS.condF (by rfl) rfl ?_
        refine CS.skip ?_
        refine cutQ_n (by intro t ht; repeat (first | exact frame_puts ht (frame_mix ht) _ rfl | (refine frame_put rfl ht ?_) | (refine frame_puts ht ?_ _ rfl) | exact frame_mix ht | (refine frame_mix2 rfl ht ?_) | exact rfl)) ?_
        exact ⟨(), trivial, (by repeat (first | exact kn_nil | refine kn_cons (by rfl) ?_)), (by repeat (first | exact List.Sublist.refl _ | exact List.nil_sublist _ | refine List.Sublist.cons_cons _ ?_ | refine List.Sublist.cons _ ?_ | exact Sbp.refl | exact Sbp.nil | refine Sbp.cons (by repeat (first | exact Rem.head | apply Rem.tail)) ?_ | exact Sbp.app | refine Sbp.skip ?_))⟩
    · intro z gj hz
      refine CS.seq ?_
      refine CS.region ?_
      refine RS.q rfl (QO.move) ?_
      refine RS.q rfl (QO.move) ?_
      refine RS.q rfl (QO.build ty23 pl23 (by rfl)) ?_
      refine RS.q rfl (QO.fieldAddr fo26_0 (by rfl)) ?_
      first | (refine RS.q rfl (QO.loadB ty23 (by rfl) (by repeat (first | exact List.Mem.head _ | refine List.Mem.tail _ ?_)) (by rfl)) ?_) | (refine RS.q rfl (QO.loadA ty23 (by rfl) (by repeat (first | exact List.Mem.head _ | refine List.Mem.tail _ ?_)) (by rfl) (by rfl)) ?_) | (refine RS.q rfl (QO.loadOA ty23 (by rfl) (by assumption) (by rfl)) ?_)
      refine RS.call rfl (by rfl) ok25 (by rfl) (fun w ho => rinside x y 1 1 X Y a b _ (by omega) (by omega) (by omega) (by omega) (by omega) (by omega)) ?_
      rintro _ _ ⟨rfl, rfl⟩
      refine RS.q rfl (QO.assign) ?_
      refine RS.nil ?_
      refine thenC_n ?_
      refine CS.seq ?_
      refine CS.region ?_
      first | (refine RS.q rfl (QO.loadB ty26 (by rfl) (by repeat (first | exact List.Mem.head _ | refine List.Mem.tail _ ?_)) (by rfl)) ?_) | (refine RS.q rfl (QO.loadA ty26 (by rfl) (by repeat (first | exact List.Mem.head _ | refine List.Mem.tail _ ?_)) (by rfl) (by rfl)) ?_) | (refine RS.q rfl (QO.loadOA ty26 (by rfl) (by assumption) (by rfl)) ?_)
      refine RS.q rfl (QO.move) ?_
      refine RS.q rfl (QO.move) ?_
      refine RS.call rfl (by rfl) ok97 (by rfl) (fun w ho => at_ x y X Y a b _ _ _ ys _ rfl (FS.blk' ho (by repeat (first | exact List.Mem.head _ | refine List.Mem.tail _ ?_))) hys (Nat.le_refl _) (by unfold maxLen; omega) (by omega) (by omega) (by omega) (by omega) (frErr_small hys ha hb hX hY)) ?_
      rintro _ _ ⟨rfl, rfl⟩
      refine RS.q rfl (QO.move) ?_
      refine RS.q rfl (QO.extract (by rfl) (by rfl)) ?_
      refine RS.q rfl (QO.extract (by rfl) (by rfl)) ?_
      refine RS.alloc rfl ty35 ?_
      intro g17
      first | refine RS.storeB ty35 (by rfl) (by rfl) (by rfl) (by rfl) (by rfl) (by repeat (first | exact Upd.head | apply Upd.tail)) (by rfl) ?_ | refine RS.storeP ty35 (by rfl) (by rfl) (by rfl) (by rfl) (by rfl) (by repeat (first | exact Upd.head | apply Upd.tail)) (by rfl) ?_
      refine RS.q rfl (QO.assign) ?_
      refine RS.nil ?_
      refine thenC_n ?_
      refine CS.seq ?_
      refine CS.region ?_
      first | (refine RS.q rfl (QO.loadB ty26 (by rfl) (by repeat (first | exact List.Mem.head _ | refine List.Mem.tail _ ?_)) (by rfl)) ?_) | (refine RS.q rfl (QO.loadA ty26 (by rfl) (by repeat (first | exact List.Mem.head _ | refine List.Mem.tail _ ?_)) (by rfl) (by rfl)) ?_) | (refine RS.q rfl (QO.loadOA ty26 (by rfl) (by assumption) (by rfl)) ?_)
      refine RS.q rfl (QO.move) ?_
      refine RS.q rfl (QO.move) ?_
      first | (refine RS.q rfl (QO.loadB ty35 (by rfl) (by repeat (first | exact List.Mem.head _ | refine List.Mem.tail _ ?_)) (by rfl)) ?_) | (refine RS.q rfl (QO.loadA ty35 (by rfl) (by repeat (first | exact List.Mem.head _ | refine List.Mem.tail _ ?_)) (by rfl) (by rfl)) ?_) | (refine RS.q rfl (QO.loadOA ty35 (by rfl) (by assumption) (by rfl)) ?_)
      refine RS.call rfl (by rfl) ok98 (by rfl) (fun w ho => put_ x y q X Y a b _ _ _ ys _ rfl (FS.blk' ho (by repeat (first | exact List.Mem.head _ | refine List.Mem.tail _ ?_))) hys (Nat.le_refl _) (by unfold maxLen; omega) (by omega) (by omega) (by omega) (by omega) (frErr_small hys ha hb hX hY)) ?_
      intro v73 H73 h73
      have k73 := h73.any
      clear h73
      obtain ⟨u_b, v_b, w_b, h_b, A_b, n_b, c_b, rfl, hvb⟩ := k73
      refine RS.perm List.perm_append_comm ?_
      refine RS.q rfl (QO.move) ?_
      refine RS.q rfl (QO.extract (by rfl) (by rfl)) ?_
      refine RS.q rfl (QO.extract (by rfl) (by rfl)) ?_
      refine RS.alloc rfl ty26 ?_
      intro g18
      first | refine RS.storeB ty26 (by rfl) (by rfl) (by rfl) (by rfl) (by rfl) (by repeat (first | exact Upd.head | apply Upd.tail)) (by rfl) ?_ | refine RS.storeP ty26 (by rfl) (by rfl) (by rfl) (by rfl) (by rfl) (by repeat (first | exact Upd.head | apply Upd.tail)) (by rfl) ?_
      refine RS.q rfl (QO.assign) ?_
      refine RS.nil ?_
      refine thenC_n ?_
      refine CS.cut (X := Unit) (12 :: 20 :: 21 :: 76 :: 77 :: 78 :: 79 :: 80 :: 81 :: 82 :: 83 :: 84 :: 85 :: 86 :: 87 :: 88 :: 89 :: 90 :: 91 :: 92 :: 93 :: 94 :: 95 :: 96 :: 97 :: 98 :: 99 :: 100 :: 101 :: 102 :: 103 :: 104 :: 105 :: 106 :: 107 :: 108 :: 109 :: 110 :: 111 :: 112 :: 113 :: 114 :: 115 :: 116 :: 117 :: 118 :: 119 :: 120 :: 121 :: 122 :: 123 :: 124 :: 125 :: 126 :: 127 :: 128 :: 129 :: []) (fun z => []) (fun z => [⟨g7, 26, [iv X2, iv Y2, iv (a2 : Int), iv (b2 : Int), .slice (some ⟨gf2, 0, none⟩) zs.length zs.length]⟩, ⟨g6, 26, [iv X, iv Y, iv (a : Int), iv (b : Int), .slice (some ⟨gf, 0, none⟩) ys.length ys.length]⟩, ⟨gf2, 33, zs.map flt⟩, ⟨gf, 33, ys.map flt⟩, ⟨g8, 23, [iv rx, iv ry, iv rw_, iv rh]⟩, ⟨g11, 35, [flt (q 0), flt (q 1), flt (q 2), flt (q 3)]⟩]) (fun z => True) ?_ ?_
      · refine CS.seq ?_
        refine CS.region ?_
        refine RS.q rfl (QO.move) ?_
        refine RS.q rfl (QO.not (by rfl)) ?_
        refine RS.nil ?_
        refine thenC_n ?_
        refine CS.cond (by rfl) (fun hb1 => ?_) (fun hb1 => ?_)
        · have hb1p := Eq.mp (Bool.not_eq_true' _) hb1
          refine CS.seq ?_
          refine CS.region ?_
          have hat := (insB_at ..).symm.trans hb1p
          refine RS.q rfl (QO.move) ?_
          refine RS.qv rfl (QO.neq (by rfl) (by rfl)) (congrArg Value.bool (show (atE x y X Y a b != 5) = false from by rw [atE_F hat]; rfl)) ?_
          refine RS.q rfl (QO.move) ?_
          refine RS.on (dj := 80) rfl (congrArg Value.bool rfl) ?_
          refine RS.q rfl (QO.move) ?_
          refine RS.on (dj := 80) rfl (congrArg Value.bool rfl) ?_
          refine RS.qv rfl (QO.neq (by rfl) (by rfl)) (congrArg Value.bool (show (atE x y X Y a b != 5) = false from by rw [atE_F hat]; rfl)) ?_
          refine RS.q rfl (QO.pickF (by rfl) rfl (by rfl)) ?_
          refine RS.q rfl (QO.move) ?_
          refine RS.on (dj := 84) rfl (congrArg Value.bool rfl) ?_
          first | (refine RS.qv rfl (QO.loadB ty35 (by rfl) (by repeat (first | exact List.Mem.head _ | refine List.Mem.tail _ ?_)) (by rfl)) (show pxv (atQ ys x y X Y a b) = .agg #[flt 0, flt 0, flt 0, flt 0] from by rw [show atQ ys x y X Y a b = fun _ => 0 from funext fun c => atQ_F hat c]) ?_) | (refine RS.qv rfl (QO.loadA ty35 (by rfl) (by repeat (first | exact List.Mem.head _ | refine List.Mem.tail _ ?_)) (by rfl) (by rfl)) (show pxv (atQ ys x y X Y a b) = .agg #[flt 0, flt 0, flt 0, flt 0] from by rw [show atQ ys x y X Y a b = fun _ => 0 from funext fun c => atQ_F hat c]) ?_) | (refine RS.qv rfl (QO.loadOA ty35 (by rfl) (by assumption) (by rfl)) (show pxv (atQ ys x y X Y a b) = .agg #[flt 0, flt 0, flt 0, flt 0] from by rw [show atQ ys x y X Y a b = fun _ => 0 from funext fun c => atQ_F hat c]) ?_)
          refine RS.on (dj := 84) rfl (congrArg Value.bool rfl) ?_
          refine RS.q rfl (QO.buildA Try.underlying35 ty35 ty33 (by rfl)) ?_
          refine RS.on (dj := 84) rfl (congrArg Value.bool rfl) ?_
          refine RS.q rfl (QO.aneqC (by rfl) (by rfl) eqg35 eqz35) ?_
          refine RS.q rfl (QO.pickF (by rfl) rfl (by rfl)) ?_
          refine RS.nil ?_
          refine thenC_n ?_
          refine CS.condF (by rfl) rfl ?_
          refine CS.skip ?_
          refine cutQ_n (by intro t ht; repeat (first | exact frame_puts ht (frame_mix ht) _ rfl | (refine frame_put rfl ht ?_) | (refine frame_puts ht ?_ _ rfl) | exact frame_mix ht | (refine frame_mix2 rfl ht ?_) | exact rfl)) ?_
          exact ⟨(), trivial, (by repeat (first | exact kn_nil | refine kn_cons (by rfl) ?_)), (by repeat (first | exact List.Sublist.refl _ | exact List.nil_sublist _ | refine List.Sublist.cons_cons _ ?_ | refine List.Sublist.cons _ ?_ | exact Sbp.refl | exact Sbp.nil | refine Sbp.cons (by repeat (first | exact Rem.head | apply Rem.tail)) ?_ | exact Sbp.app | refine Sbp.skip ?_))⟩
        · have hb1p := Eq.mp (Bool.not_eq_false' _) hb1
          refine CS.seq ?_
          refine CS.region ?_
          have hat := (insB_at ..).symm.trans hb1p
          have hatp := atB_T hat
          first | (refine RS.q rfl (QO.loadB ty26 (by rfl) (by repeat (first | exact List.Mem.head _ | refine List.Mem.tail _ ?_)) (by rfl)) ?_) | (refine RS.q rfl (QO.loadA ty26 (by rfl) (by repeat (first | exact List.Mem.head _ | refine List.Mem.tail _ ?_)) (by rfl) (by rfl)) ?_) | (refine RS.q rfl (QO.loadOA ty26 (by rfl) (by assumption) (by rfl)) ?_)
          refine RS.q rfl (QO.move) ?_
          refine RS.q rfl (QO.move) ?_
          refine RS.call rfl (by rfl) ok23 (by rfl) (fun w ho => pixelAt X Y a b _ _ _ ys x y w rfl (FS.blk' ho (by repeat (first | exact List.Mem.head _ | refine List.Mem.tail _ ?_))) hys (Nat.le_refl _) (by omega) (by omega) (by omega) (by omega)) ?_
          rintro _ _ ⟨rfl, rfl⟩
          refine RS.alloc rfl ty35 ?_
          intro g20
          first | refine RS.storeB ty35 (by rfl) (by rfl) (by rfl) (by rfl) (by rfl) (by repeat (first | exact Upd.head | apply Upd.tail)) (by rfl) ?_ | refine RS.storeP ty35 (by rfl) (by rfl) (by rfl) (by rfl) (by rfl) (by repeat (first | exact Upd.head | apply Upd.tail)) (by rfl) ?_
          refine RS.nil ?_
          refine thenC_n ?_
          refine CS.seq ?_
          refine CS.region ?_
          refine RS.q rfl (QO.move) ?_
          refine RS.q rfl (QO.move) ?_
          refine RS.q rfl (QO.build ty23 pl23 (by rfl)) ?_
          refine RS.q rfl (QO.makeFunc) ?_
          refine RS.call rfl (by rfl) ok95 (by rfl) (fun w ho => made' x y 1 1 99 #[.pointer (some ⟨g11, 0, none⟩)] (fun _ _ c => q c) _ (by kernel_rfl) (by omega) (by omega) (by omega) (by omega) (fun wd Hd hd X' Y' _ _ _ _ => cutlaw2 X' Y' g11 q wd (fun j v hj => hd.old (ho.cellAt (by repeat (first | exact List.Mem.head _ | refine List.Mem.tail _ ?_)) hj)))) ?_
          intro v97 H97 h97
          obtain ⟨gm97, cm97, jm97, rfl, rfl, hcm97, hcx97⟩ := h97
          refine RS.alloc rfl ty26 ?_
          intro g21
          first | refine RS.storeB ty26 (by rfl) (by rfl) (by rfl) (by rfl) (by rfl) (by repeat (first | exact Upd.head | apply Upd.tail)) (by rfl) ?_ | refine RS.storeP ty26 (by rfl) (by rfl) (by rfl) (by rfl) (by rfl) (by repeat (first | exact Upd.head | apply Upd.tail)) (by rfl) ?_
          refine RS.nil ?_
          refine thenC_n ?_
          refine CS.seq ?_
          refine CS.draw 32 rfl (by kernel_rfl) (by kernel_rfl) ?_
          refine RT.take (i := 0) rfl (by kernel_rfl) rfl (QO.move) ?_
          refine RT.takev (i := 1) rfl (by kernel_rfl) rfl (QO.neq (by rfl) (by rfl)) (congrArg Value.bool (show (atE x y X Y a b != 0) = false from by rw [atE_T hat]; rfl)) ?_
          refine RT.take (i := 2) rfl (by kernel_rfl) rfl (QO.move) ?_
          refine RT.takeOn (i := 3) (dj := 100) rfl rfl (congrArg Value.bool rfl) (by kernel_rfl) rfl (QO.move) ?_
          refine RT.takeOnv (i := 4) (dj := 100) rfl rfl (congrArg Value.bool rfl) (by kernel_rfl) rfl (QO.neq (by rfl) (by rfl)) (congrArg Value.bool (show (atE x y X Y a b != 0) = false from by rw [atE_T hat]; rfl)) ?_
          refine RT.take (i := 5) rfl (by kernel_rfl) rfl (QO.pickF (by rfl) rfl (by rfl)) ?_
          refine RT.take (i := 6) rfl (by kernel_rfl) rfl (QO.move) ?_
          first | (refine RT.takeOn (i := 7) (dj := 104) rfl rfl (congrArg Value.bool rfl) (by kernel_rfl) rfl (QO.idxArr0 Try.underlying35 ty33 (by rfl) (by rfl) (by rfl) (by omega)) ?_) | (refine RT.takeOn (i := 7) (dj := 104) rfl rfl (congrArg Value.bool rfl) (by kernel_rfl) rfl (QO.idxArrn Try.underlying35 ty33 (by rfl) (by rfl) (by rfl) (by omega)) ?_) | (refine RT.takeOn (i := 7) (dj := 104) rfl rfl (congrArg Value.bool rfl) (by kernel_rfl) rfl (QO.idxArr Try.underlying35 ty33 (by rfl) (by rfl) (by omega) (by omega)) ?_)
          first | (refine RT.takeOn (i := 8) (dj := 104) rfl rfl (congrArg Value.bool rfl) (by kernel_rfl) rfl (QO.load ty33 (by rfl) (by repeat (first | exact List.Mem.head _ | refine List.Mem.tail _ ?_)) (by rfl)) ?_) | (refine RT.takeOn (i := 8) (dj := 104) rfl rfl (congrArg Value.bool rfl) (by kernel_rfl) rfl (QO.loadO ty33 (by rfl) (by assumption)) ?_) | (refine RT.takeOn (i := 8) (dj := 104) rfl rfl (congrArg Value.bool rfl) (by kernel_rfl) rfl (QO.load ty33 (by rfl) (by repeat (first | exact List.Mem.head _ | refine List.Mem.tail _ ?_)) (by assumption)) ?_)
          first | (refine RT.takeOn (i := 9) (dj := 104) rfl rfl (congrArg Value.bool rfl) (by kernel_rfl) rfl (QO.idxArr0 Try.underlying35 ty33 (by rfl) (by rfl) (by rfl) (by omega)) ?_) | (refine RT.takeOn (i := 9) (dj := 104) rfl rfl (congrArg Value.bool rfl) (by kernel_rfl) rfl (QO.idxArrn Try.underlying35 ty33 (by rfl) (by rfl) (by rfl) (by omega)) ?_) | (refine RT.takeOn (i := 9) (dj := 104) rfl rfl (congrArg Value.bool rfl) (by kernel_rfl) rfl (QO.idxArr Try.underlying35 ty33 (by rfl) (by rfl) (by omega) (by omega)) ?_)
          first | (refine RT.takeOn (i := 10) (dj := 104) rfl rfl (congrArg Value.bool rfl) (by kernel_rfl) rfl (QO.load ty33 (by rfl) (by repeat (first | exact List.Mem.head _ | refine List.Mem.tail _ ?_)) (by rfl)) ?_) | (refine RT.takeOn (i := 10) (dj := 104) rfl rfl (congrArg Value.bool rfl) (by kernel_rfl) rfl (QO.loadO ty33 (by rfl) (by assumption)) ?_) | (refine RT.takeOn (i := 10) (dj := 104) rfl rfl (congrArg Value.bool rfl) (by kernel_rfl) rfl (QO.load ty33 (by rfl) (by repeat (first | exact List.Mem.head _ | refine List.Mem.tail _ ?_)) (by assumption)) ?_)
          refine RT.one (i := 11) (by kernel_rfl) rfl rfl ?_
          refine RS.on (dj := 104) rfl (congrArg Value.bool rfl) ?_
          refine RS.call rfl (by rfl) ok100 (by rfl) (fun w ho => fix _ _) ?_
          rintro _ _ ⟨rfl, rfl⟩
          refine RS.nil ⟨(by repeat (first | exact List.Sublist.refl _ | exact List.nil_sublist _ | refine List.Sublist.cons_cons _ ?_ | refine List.Sublist.cons _ ?_ | exact Sbp.refl | exact Sbp.nil | refine Sbp.cons (by repeat (first | exact Rem.head | apply Rem.tail)) ?_ | exact Sbp.app | refine Sbp.skip ?_)), ?_⟩
          refine RT.one (i := 12) (by kernel_rfl) rfl rfl ?_
          refine RS.on (dj := 104) rfl (congrArg Value.bool rfl) ?_
          refine RS.call rfl (by rfl) ok28 (by rfl) (fun w ho => exact_true _ _ (atQ_T hat 0) _) ?_
          rintro _ _ ⟨rfl, rfl⟩
          refine RS.nil ⟨(by repeat (first | exact List.Sublist.refl _ | exact List.nil_sublist _ | refine List.Sublist.cons_cons _ ?_ | refine List.Sublist.cons _ ?_ | exact Sbp.refl | exact Sbp.nil | refine Sbp.cons (by repeat (first | exact Rem.head | apply Rem.tail)) ?_ | exact Sbp.app | refine Sbp.skip ?_)), ?_⟩
          refine RT.takeOn (i := 13) (dj := 104) rfl rfl (congrArg Value.bool rfl) (by kernel_rfl) rfl (QO.not (by rfl)) ?_
          refine RT.take (i := 14) rfl (by kernel_rfl) rfl (QO.pickF (by rfl) rfl (by rfl)) ?_
          refine RT.take (i := 15) rfl (by kernel_rfl) rfl (QO.move) ?_
          first | (refine RT.takeOn (i := 16) (dj := 113) rfl rfl (congrArg Value.bool rfl) (by kernel_rfl) rfl (QO.idxArr0 Try.underlying35 ty33 (by rfl) (by rfl) (by rfl) (by omega)) ?_) | (refine RT.takeOn (i := 16) (dj := 113) rfl rfl (congrArg Value.bool rfl) (by kernel_rfl) rfl (QO.idxArrn Try.underlying35 ty33 (by rfl) (by rfl) (by rfl) (by omega)) ?_) | (refine RT.takeOn (i := 16) (dj := 113) rfl rfl (congrArg Value.bool rfl) (by kernel_rfl) rfl (QO.idxArr Try.underlying35 ty33 (by rfl) (by rfl) (by omega) (by omega)) ?_)
          first | (refine RT.takeOn (i := 17) (dj := 113) rfl rfl (congrArg Value.bool rfl) (by kernel_rfl) rfl (QO.load ty33 (by rfl) (by repeat (first | exact List.Mem.head _ | refine List.Mem.tail _ ?_)) (by rfl)) ?_) | (refine RT.takeOn (i := 17) (dj := 113) rfl rfl (congrArg Value.bool rfl) (by kernel_rfl) rfl (QO.loadO ty33 (by rfl) (by assumption)) ?_) | (refine RT.takeOn (i := 17) (dj := 113) rfl rfl (congrArg Value.bool rfl) (by kernel_rfl) rfl (QO.load ty33 (by rfl) (by repeat (first | exact List.Mem.head _ | refine List.Mem.tail _ ?_)) (by assumption)) ?_)
          first | (refine RT.takeOn (i := 18) (dj := 113) rfl rfl (congrArg Value.bool rfl) (by kernel_rfl) rfl (QO.idxArr0 Try.underlying35 ty33 (by rfl) (by rfl) (by rfl) (by omega)) ?_) | (refine RT.takeOn (i := 18) (dj := 113) rfl rfl (congrArg Value.bool rfl) (by kernel_rfl) rfl (QO.idxArrn Try.underlying35 ty33 (by rfl) (by rfl) (by rfl) (by omega)) ?_) | (refine RT.takeOn (i := 18) (dj := 113) rfl rfl (congrArg Value.bool rfl) (by kernel_rfl) rfl (QO.idxArr Try.underlying35 ty33 (by rfl) (by rfl) (by omega) (by omega)) ?_)
          first | (refine RT.takeOn (i := 19) (dj := 113) rfl rfl (congrArg Value.bool rfl) (by kernel_rfl) rfl (QO.load ty33 (by rfl) (by repeat (first | exact List.Mem.head _ | refine List.Mem.tail _ ?_)) (by rfl)) ?_) | (refine RT.takeOn (i := 19) (dj := 113) rfl rfl (congrArg Value.bool rfl) (by kernel_rfl) rfl (QO.loadO ty33 (by rfl) (by assumption)) ?_) | (refine RT.takeOn (i := 19) (dj := 113) rfl rfl (congrArg Value.bool rfl) (by kernel_rfl) rfl (QO.load ty33 (by rfl) (by repeat (first | exact List.Mem.head _ | refine List.Mem.tail _ ?_)) (by assumption)) ?_)
          refine RT.one (i := 20) (by kernel_rfl) rfl rfl ?_
          refine RS.on (dj := 113) rfl (congrArg Value.bool rfl) ?_
          refine RS.call rfl (by rfl) ok100 (by rfl) (fun w ho => fix _ _) ?_
          rintro _ _ ⟨rfl, rfl⟩
          refine RS.nil ⟨(by repeat (first | exact List.Sublist.refl _ | exact List.nil_sublist _ | refine List.Sublist.cons_cons _ ?_ | refine List.Sublist.cons _ ?_ | exact Sbp.refl | exact Sbp.nil | refine Sbp.cons (by repeat (first | exact Rem.head | apply Rem.tail)) ?_ | exact Sbp.app | refine Sbp.skip ?_)), ?_⟩
          refine RT.one (i := 21) (by kernel_rfl) rfl rfl ?_
          refine RS.on (dj := 113) rfl (congrArg Value.bool rfl) ?_
          refine RS.call rfl (by rfl) ok28 (by rfl) (fun w ho => exact_true _ _ (atQ_T hat 3) _) ?_
          rintro _ _ ⟨rfl, rfl⟩
          refine RS.nil ⟨(by repeat (first | exact List.Sublist.refl _ | exact List.nil_sublist _ | refine List.Sublist.cons_cons _ ?_ | refine List.Sublist.cons _ ?_ | exact Sbp.refl | exact Sbp.nil | refine Sbp.cons (by repeat (first | exact Rem.head | apply Rem.tail)) ?_ | exact Sbp.app | refine Sbp.skip ?_)), ?_⟩
          refine RT.takeOn (i := 22) (dj := 113) rfl rfl (congrArg Value.bool rfl) (by kernel_rfl) rfl (QO.not (by rfl)) ?_
          refine RT.take (i := 23) rfl (by kernel_rfl) rfl (QO.pickF (by rfl) rfl (by rfl)) ?_
          refine RT.take (i := 24) rfl (by kernel_rfl) rfl (QO.move) ?_
          first | (refine RT.takeOn (i := 25) (dj := 122) rfl rfl (congrArg Value.bool rfl) (by kernel_rfl) rfl (QO.loadB ty26 (by rfl) (by repeat (first | exact List.Mem.head _ | refine List.Mem.tail _ ?_)) (by rfl)) ?_) | (refine RT.takeOn (i := 25) (dj := 122) rfl rfl (congrArg Value.bool rfl) (by kernel_rfl) rfl (QO.loadA ty26 (by rfl) (by repeat (first | exact List.Mem.head _ | refine List.Mem.tail _ ?_)) (by rfl) (by rfl)) ?_) | (refine RT.takeOn (i := 25) (dj := 122) rfl rfl (congrArg Value.bool rfl) (by kernel_rfl) rfl (QO.loadOA ty26 (by rfl) (by assumption) (by rfl)) ?_)
          first | (refine RT.takeOn (i := 26) (dj := 122) rfl rfl (congrArg Value.bool rfl) (by kernel_rfl) rfl (QO.loadB ty26 (by rfl) (by repeat (first | exact List.Mem.head _ | refine List.Mem.tail _ ?_)) (by rfl)) ?_) | (refine RT.takeOn (i := 26) (dj := 122) rfl rfl (congrArg Value.bool rfl) (by kernel_rfl) rfl (QO.loadA ty26 (by rfl) (by repeat (first | exact List.Mem.head _ | refine List.Mem.tail _ ?_)) (by rfl) (by rfl)) ?_) | (refine RT.takeOn (i := 26) (dj := 122) rfl rfl (congrArg Value.bool rfl) (by kernel_rfl) rfl (QO.loadOA ty26 (by rfl) (by assumption) (by rfl)) ?_)
          first | (refine RT.takeOn (i := 27) (dj := 122) rfl rfl (congrArg Value.bool rfl) (by kernel_rfl) rfl (QO.loadB ty26 (by rfl) (by repeat (first | exact List.Mem.head _ | refine List.Mem.tail _ ?_)) (by rfl)) ?_) | (refine RT.takeOn (i := 27) (dj := 122) rfl rfl (congrArg Value.bool rfl) (by kernel_rfl) rfl (QO.loadA ty26 (by rfl) (by repeat (first | exact List.Mem.head _ | refine List.Mem.tail _ ?_)) (by rfl) (by rfl)) ?_) | (refine RT.takeOn (i := 27) (dj := 122) rfl rfl (congrArg Value.bool rfl) (by kernel_rfl) rfl (QO.loadOA ty26 (by rfl) (by assumption) (by rfl)) ?_)
          refine RT.one (i := 28) (by kernel_rfl) rfl rfl ?_
          refine RS.on (dj := 122) rfl (congrArg Value.bool rfl) ?_
          refine RS.call rfl (by rfl) ok101 (by rfl) (fun w ho => rpaste X Y a b _ _ _ ys x y 1 1 _ _ _ (fillV q 4) _ rfl (FS.blk' ho (by repeat (first | exact List.Mem.head _ | refine List.Mem.tail _ ?_))) hys (Nat.le_refl _) (by unfold maxLen; omega) (by omega) (by omega) (by omega) (by omega) (by rfl) (FS.blk ho (by repeat (first | exact List.Mem.head _ | refine List.Mem.tail _ ?_))) (by rfl) (by omega) (by omega) (by omega) (by omega) hcm97) ?_
          intro v126 H126 h126
          obtain ⟨gm126, cm126, jm126, rfl, rfl, hcm126, hcx126⟩ := h126
          refine RS.nil ⟨(by repeat (first | exact List.Sublist.refl _ | exact List.nil_sublist _ | refine List.Sublist.cons_cons _ ?_ | refine List.Sublist.cons _ ?_ | exact Sbp.refl | exact Sbp.nil | refine Sbp.cons (by repeat (first | exact Rem.head | apply Rem.tail)) ?_ | exact Sbp.app | refine Sbp.skip ?_)), ?_⟩
          refine RT.one (i := 29) (by kernel_rfl) rfl rfl ?_
          refine RS.on (dj := 122) rfl (congrArg Value.bool rfl) ?_
          refine RS.call rfl (by rfl) ok33 (by rfl) (fun w ho => sameFW (atE x y X Y a b) X Y a b (putV ys q X Y a b x y) (pstV ys (fillV q 4) X Y a b x y 1 1) _ _ _ _ _ _ _ _ _ _ w (hvb.fw ho (fun q hq => by simp [hq])) (atE_T hat) (put_paste hys) (by rfl) (FS.blk ho (by repeat (first | exact List.Mem.head _ | refine List.Mem.tail _ ?_)))) ?_
          rintro _ _ ⟨rfl, rfl⟩
          refine RS.nil ⟨(by repeat (first | exact List.Sublist.refl _ | exact List.nil_sublist _ | refine List.Sublist.cons_cons _ ?_ | refine List.Sublist.cons _ ?_ | exact Sbp.refl | exact Sbp.nil | refine Sbp.cons (by repeat (first | exact Rem.head | apply Rem.tail)) ?_ | exact Sbp.app | refine Sbp.skip ?_)), ?_⟩
          refine RT.takeOn (i := 30) (dj := 122) rfl rfl (congrArg Value.bool rfl) (by kernel_rfl) rfl (QO.not (by rfl)) ?_
          refine RT.take (i := 31) rfl (by kernel_rfl) rfl (QO.pickF (by rfl) rfl (by rfl)) ?_
          refine RT.done (by kernel_rfl) ?_
          refine thenC_n ?_
          refine CS.condF (by rfl) rfl ?_
          refine CS.skip ?_
          refine cutQ_n (by intro t ht; repeat (first | exact frame_puts ht (frame_mix ht) _ rfl | (refine frame_put rfl ht ?_) | (refine frame_puts ht ?_ _ rfl) | exact frame_mix ht | (refine frame_mix2 rfl ht ?_) | exact rfl)) ?_
          exact ⟨(), trivial, (by repeat (first | exact kn_nil | refine kn_cons (by rfl) ?_)), (by repeat (first | exact List.Sublist.refl _ | exact List.nil_sublist _ | refine List.Sublist.cons_cons _ ?_ | refine List.Sublist.cons _ ?_ | exact Sbp.refl | exact Sbp.nil | refine Sbp.cons (by repeat (first | exact Rem.head | apply Rem.tail)) ?_ | exact Sbp.app | refine Sbp.skip ?_))⟩
      · intro z gj hz
        refine CS.seq ?_
        refine CS.region ?_
        first | (refine RS.q rfl (QO.loadB ty26 (by rfl) (by repeat (first | exact List.Mem.head _ | refine List.Mem.tail _ ?_)) (by rfl)) ?_) | (refine RS.q rfl (QO.loadA ty26 (by rfl) (by repeat (first | exact List.Mem.head _ | refine List.Mem.tail _ ?_)) (by rfl) (by rfl)) ?_) | (refine RS.q rfl (QO.loadOA ty26 (by rfl) (by assumption) (by rfl)) ?_)
        first | (refine RS.q rfl (QO.loadB ty23 (by rfl) (by repeat (first | exact List.Mem.head _ | refine List.Mem.tail _ ?_)) (by rfl)) ?_) | (refine RS.q rfl (QO.loadA ty23 (by rfl) (by repeat (first | exact List.Mem.head _ | refine List.Mem.tail _ ?_)) (by rfl) (by rfl)) ?_) | (refine RS.q rfl (QO.loadOA ty23 (by rfl) (by assumption) (by rfl)) ?_)
        refine RS.call rfl (by rfl) ok102 (by rfl) (fun w ho => cut_ X Y a b _ _ _ ys rx ry rw_ rh _ rfl (FS.blk' ho (by repeat (first | exact List.Mem.head _ | refine List.Mem.tail _ ?_))) hys (Nat.le_refl _) (by unfold maxLen; omega) (by omega) (by omega) (by omega) (by omega) (frErr_small hys ha hb hX hY)) ?_
        intro v133 H133 h133
        have k133 := h133.any
        clear h133
        obtain ⟨u_c, v_c, w_c, h_c, A_c, n_c, c_c, rfl, hvc⟩ := k133
        refine RS.perm List.perm_append_comm ?_
        refine RS.q rfl (QO.move) ?_
        refine RS.q rfl (QO.extract (by rfl) (by rfl)) ?_
        refine RS.q rfl (QO.extract (by rfl) (by rfl)) ?_
        refine RS.alloc rfl ty26 ?_
        intro g22
        first | refine RS.storeB ty26 (by rfl) (by rfl) (by rfl) (by rfl) (by rfl) (by repeat (first | exact Upd.head | apply Upd.tail)) (by rfl) ?_ | refine RS.storeP ty26 (by rfl) (by rfl) (by rfl) (by rfl) (by rfl) (by repeat (first | exact Upd.head | apply Upd.tail)) (by rfl) ?_
        refine RS.q rfl (QO.assign) ?_
        refine RS.nil ?_
        refine thenC_n ?_
        refine CS.cut (X := Unit) (12 :: 136 :: 137 :: 138 :: 139 :: 140 :: 141 :: 142 :: 143 :: 144 :: 145 :: 146 :: 147 :: 148 :: 149 :: 150 :: 151 :: 152 :: 153 :: 154 :: 155 :: 156 :: 157 :: 158 :: 159 :: []) (fun z => []) (fun z => [⟨g7, 26, [iv X2, iv Y2, iv (a2 : Int), iv (b2 : Int), .slice (some ⟨gf2, 0, none⟩) zs.length zs.length]⟩, ⟨g6, 26, [iv X, iv Y, iv (a : Int), iv (b : Int), .slice (some ⟨gf, 0, none⟩) ys.length ys.length]⟩, ⟨gf2, 33, zs.map flt⟩, ⟨gf, 33, ys.map flt⟩, ⟨g8, 23, [iv rx, iv ry, iv rw_, iv rh]⟩, ⟨g11, 35, [flt (q 0), flt (q 1), flt (q 2), flt (q 3)]⟩]) (fun z => True) ?_ ?_
        · refine CS.block ?_
          refine CS.seq ?_
          refine CS.region ?_
          refine RS.q rfl (QO.move) ?_
          refine RS.q rfl (QO.neq (by rfl) (by rfl)) ?_
          refine RS.q rfl (QO.assign) ?_
          refine RS.nil ?_
          refine thenC_n ?_
          refine CS.cond (by rfl) (fun hb2 => ?_) (fun hb2 => ?_)
          · have hb2p := bne_iff_ne.1 hb2
            refine CS.seq ?_
            refine CS.region ?_
            refine RS.q rfl (QO.move) ?_
            refine RS.q rfl (QO.move) ?_
            refine RS.qv rfl (QO.neq (by rfl) (by rfl)) (congrArg Value.bool (show (cutE rx ry rw_ rh X Y a b != regErr rx ry rw_ rh) = false from by rw [cut_1 (by assumption)]; exact bne_self_eq_false _)) ?_
            refine RS.nil ?_
            refine thenC_n ?_
            refine CS.condF (by rfl) rfl ?_
            refine CS.skip ?_
            refine blockC_n ?_
            refine cutQ_n (by intro t ht; repeat (first | exact frame_puts ht (frame_mix ht) _ rfl | (refine frame_put rfl ht ?_) | (refine frame_puts ht ?_ _ rfl) | exact frame_mix ht | (refine frame_mix2 rfl ht ?_) | exact rfl)) ?_
            exact ⟨(), trivial, (by repeat (first | exact kn_nil | refine kn_cons (by rfl) ?_)), (by repeat (first | exact List.Sublist.refl _ | exact List.nil_sublist _ | refine List.Sublist.cons_cons _ ?_ | refine List.Sublist.cons _ ?_ | exact Sbp.refl | exact Sbp.nil | refine Sbp.cons (by repeat (first | exact Rem.head | apply Rem.tail)) ?_ | exact Sbp.app | refine Sbp.skip ?_))⟩
          · have hb2p := of_bne_false hb2
            refine CS.seq ?_
            refine CS.region ?_
            have hre := of_bne_false hb2
            have hr := regErr_ok hre
            first | (refine RS.q rfl (QO.loadB ty23 (by rfl) (by repeat (first | exact List.Mem.head _ | refine List.Mem.tail _ ?_)) (by rfl)) ?_) | (refine RS.q rfl (QO.loadA ty23 (by rfl) (by repeat (first | exact List.Mem.head _ | refine List.Mem.tail _ ?_)) (by rfl) (by rfl)) ?_) | (refine RS.q rfl (QO.loadOA ty23 (by rfl) (by assumption) (by rfl)) ?_)
            refine RS.q rfl (QO.fieldAddr fo26_0 (by rfl)) ?_
            first | (refine RS.q rfl (QO.loadB ty23 (by rfl) (by repeat (first | exact List.Mem.head _ | refine List.Mem.tail _ ?_)) (by rfl)) ?_) | (refine RS.q rfl (QO.loadA ty23 (by rfl) (by repeat (first | exact List.Mem.head _ | refine List.Mem.tail _ ?_)) (by rfl) (by rfl)) ?_) | (refine RS.q rfl (QO.loadOA ty23 (by rfl) (by assumption) (by rfl)) ?_)
            refine RS.call rfl (by rfl) ok25 (by rfl) (fun w ho => rinside rx ry rw_ rh X Y a b _ (by omega) (by omega) (by omega) (by omega) (by omega) (by omega)) ?_
            rintro _ _ ⟨rfl, rfl⟩
            refine RS.q rfl (QO.not (by rfl)) ?_
            refine RS.q rfl (QO.assign) ?_
            refine RS.nil ?_
            refine thenC_n ?_
            refine CS.cond (by rfl) (fun hb3 => ?_) (fun hb3 => ?_)
            · have hb3p := Eq.mp (Bool.not_eq_true' _) hb3
              refine CS.seq ?_
              refine CS.region ?_
              refine RS.q rfl (QO.move) ?_
              refine RS.qv rfl (QO.neq (by rfl) (by rfl)) (congrArg Value.bool (show (cutE rx ry rw_ rh X Y a b != 5) = false from by rw [cut_2 hre hb3p]; rfl)) ?_
              refine RS.nil ?_
              refine thenC_n ?_
              refine CS.condF (by rfl) rfl ?_
              refine CS.skip ?_
              refine blockC_n ?_
              refine cutQ_n (by intro t ht; repeat (first | exact frame_puts ht (frame_mix ht) _ rfl | (refine frame_put rfl ht ?_) | (refine frame_puts ht ?_ _ rfl) | exact frame_mix ht | (refine frame_mix2 rfl ht ?_) | exact rfl)) ?_
              exact ⟨(), trivial, (by repeat (first | exact kn_nil | refine kn_cons (by rfl) ?_)), (by repeat (first | exact List.Sublist.refl _ | exact List.nil_sublist _ | refine List.Sublist.cons_cons _ ?_ | refine List.Sublist.cons _ ?_ | exact Sbp.refl | exact Sbp.nil | refine Sbp.cons (by repeat (first | exact Rem.head | apply Rem.tail)) ?_ | exact Sbp.app | refine Sbp.skip ?_))⟩
            · have hb3p := Eq.mp (Bool.not_eq_false' _) hb3
              refine CS.seq ?_
              refine CS.draw 10 rfl (by kernel_rfl) (by kernel_rfl) ?_
              have hce := cutE_T hre hb3p
              refine RT.take (i := 0) rfl (by kernel_rfl) rfl (QO.move) ?_
              refine RT.takev (i := 1) rfl (by kernel_rfl) rfl (QO.neq (by rfl) (by rfl)) (congrArg Value.bool (show (cutE rx ry rw_ rh X Y a b != 0) = false from by rw [hce]; rfl)) ?_
              refine RT.take (i := 2) rfl (by kernel_rfl) rfl (QO.move) ?_
              first | (refine RT.takeOn (i := 3) (dj := 138) rfl rfl (congrArg Value.bool rfl) (by kernel_rfl) rfl (QO.loadB ty26 (by rfl) (by repeat (first | exact List.Mem.head _ | refine List.Mem.tail _ ?_)) (by rfl)) ?_) | (refine RT.takeOn (i := 3) (dj := 138) rfl rfl (congrArg Value.bool rfl) (by kernel_rfl) rfl (QO.loadA ty26 (by rfl) (by repeat (first | exact List.Mem.head _ | refine List.Mem.tail _ ?_)) (by rfl) (by rfl)) ?_) | (refine RT.takeOn (i := 3) (dj := 138) rfl rfl (congrArg Value.bool rfl) (by kernel_rfl) rfl (QO.loadOA ty26 (by rfl) (by assumption) (by rfl)) ?_)
              first | (refine RT.takeOn (i := 4) (dj := 138) rfl rfl (congrArg Value.bool rfl) (by kernel_rfl) rfl (QO.loadB ty26 (by rfl) (by repeat (first | exact List.Mem.head _ | refine List.Mem.tail _ ?_)) (by rfl)) ?_) | (refine RT.takeOn (i := 4) (dj := 138) rfl rfl (congrArg Value.bool rfl) (by kernel_rfl) rfl (QO.loadA ty26 (by rfl) (by repeat (first | exact List.Mem.head _ | refine List.Mem.tail _ ?_)) (by rfl) (by rfl)) ?_) | (refine RT.takeOn (i := 4) (dj := 138) rfl rfl (congrArg Value.bool rfl) (by kernel_rfl) rfl (QO.loadOA ty26 (by rfl) (by assumption) (by rfl)) ?_)
              first | (refine RT.takeOn (i := 5) (dj := 138) rfl rfl (congrArg Value.bool rfl) (by kernel_rfl) rfl (QO.loadB ty23 (by rfl) (by repeat (first | exact List.Mem.head _ | refine List.Mem.tail _ ?_)) (by rfl)) ?_) | (refine RT.takeOn (i := 5) (dj := 138) rfl rfl (congrArg Value.bool rfl) (by kernel_rfl) rfl (QO.loadA ty23 (by rfl) (by repeat (first | exact List.Mem.head _ | refine List.Mem.tail _ ?_)) (by rfl) (by rfl)) ?_) | (refine RT.takeOn (i := 5) (dj := 138) rfl rfl (congrArg Value.bool rfl) (by kernel_rfl) rfl (QO.loadOA ty23 (by rfl) (by assumption) (by rfl)) ?_)
              refine RT.one (i := 6) (by kernel_rfl) rfl rfl ?_
              refine RS.on (dj := 138) rfl (congrArg Value.bool rfl) ?_
              refine RS.call rfl (by rfl) ok103 (by rfl) (fun w ho => rcutI X Y a b _ _ _ ys rx ry rw_ rh _ rfl (FS.blk' ho (by repeat (first | exact List.Mem.head _ | refine List.Mem.tail _ ?_))) hys (Nat.le_refl _) (by unfold maxLen; omega) (by omega) (by omega) (by omega) (by omega) hre) ?_
              intro v142 H142 h142
              obtain ⟨gm142, cm142, jm142, rfl, rfl, hcm142, hcx142⟩ := h142
              refine RS.nil ⟨(by repeat (first | exact List.Sublist.refl _ | exact List.nil_sublist _ | refine List.Sublist.cons_cons _ ?_ | refine List.Sublist.cons _ ?_ | exact Sbp.refl | exact Sbp.nil | refine Sbp.cons (by repeat (first | exact Rem.head | apply Rem.tail)) ?_ | exact Sbp.app | refine Sbp.skip ?_)), ?_⟩
              refine RT.one (i := 7) (by kernel_rfl) rfl rfl ?_
              refine RS.on (dj := 138) rfl (congrArg Value.bool rfl) ?_
              refine RS.call rfl (by rfl) ok33 (by rfl) (fun w ho => sameFW (cutE rx ry rw_ rh X Y a b) rx ry rw_ rh (cutV ys X Y a b rx ry rw_ rh) (cutV ys X Y a b rx ry rw_ rh) _ _ _ _ _ _ _ _ _ _ w (hvc.fw ho (fun q hq => by simp [hq])) hce rfl (by rfl) (FS.blk ho (by repeat (first | exact List.Mem.head _ | refine List.Mem.tail _ ?_)))) ?_
              rintro _ _ ⟨rfl, rfl⟩
              refine RS.nil ⟨(by repeat (first | exact List.Sublist.refl _ | exact List.nil_sublist _ | refine List.Sublist.cons_cons _ ?_ | refine List.Sublist.cons _ ?_ | exact Sbp.refl | exact Sbp.nil | refine Sbp.cons (by repeat (first | exact Rem.head | apply Rem.tail)) ?_ | exact Sbp.app | refine Sbp.skip ?_)), ?_⟩
              refine RT.takeOn (i := 8) (dj := 138) rfl rfl (congrArg Value.bool rfl) (by kernel_rfl) rfl (QO.not (by rfl)) ?_
              refine RT.take (i := 9) rfl (by kernel_rfl) rfl (QO.pickF (by rfl) rfl (by rfl)) ?_
              refine RT.done (by kernel_rfl) ?_
              refine thenC_n ?_
              refine CS.condF (by rfl) rfl ?_
              refine CS.skip ?_
              refine blockC_n ?_
              refine cutQ_n (by intro t ht; repeat (first | exact frame_puts ht (frame_mix ht) _ rfl | (refine frame_put rfl ht ?_) | (refine frame_puts ht ?_ _ rfl) | exact frame_mix ht | (refine frame_mix2 rfl ht ?_) | exact rfl)) ?_
              exact ⟨(), trivial, (by repeat (first | exact kn_nil | refine kn_cons (by rfl) ?_)), (by repeat (first | exact List.Sublist.refl _ | exact List.nil_sublist _ | refine List.Sublist.cons_cons _ ?_ | refine List.Sublist.cons _ ?_ | exact Sbp.refl | exact Sbp.nil | refine Sbp.cons (by repeat (first | exact Rem.head | apply Rem.tail)) ?_ | exact Sbp.app | refine Sbp.skip ?_))⟩
        · intro z gj hz
          refine CS.seq ?_
          refine CS.region ?_
          first | (refine RS.q rfl (QO.loadB ty26 (by rfl) (by repeat (first | exact List.Mem.head _ | refine List.Mem.tail _ ?_)) (by rfl)) ?_) | (refine RS.q rfl (QO.loadA ty26 (by rfl) (by repeat (first | exact List.Mem.head _ | refine List.Mem.tail _ ?_)) (by rfl) (by rfl)) ?_) | (refine RS.q rfl (QO.loadOA ty26 (by rfl) (by assumption) (by rfl)) ?_)
          first | (refine RS.q rfl (QO.loadB ty26 (by rfl) (by repeat (first | exact List.Mem.head _ | refine List.Mem.tail _ ?_)) (by rfl)) ?_) | (refine RS.q rfl (QO.loadA ty26 (by rfl) (by repeat (first | exact List.Mem.head _ | refine List.Mem.tail _ ?_)) (by rfl) (by rfl)) ?_) | (refine RS.q rfl (QO.loadOA ty26 (by rfl) (by assumption) (by rfl)) ?_)
          refine RS.call rfl (by rfl) ok104 (by rfl) (fun w ho => paste_ X Y a b _ _ _ ys X2 Y2 a2 b2 _ _ _ zs _ rfl (FS.blk' ho (by repeat (first | exact List.Mem.head _ | refine List.Mem.tail _ ?_))) hys (Nat.le_refl _) (by unfold maxLen; omega) (by omega) (by omega) (by omega) (by omega) rfl (FS.blk' ho (by repeat (first | exact List.Mem.head _ | refine List.Mem.tail _ ?_))) hzs (by omega) (by omega) (by omega) (by omega) (frErr_small hys ha hb hX hY) (frErr_small hzs ha2 hb2 hX2 hY2)) ?_
          intro v163 H163 h163
          have k163 := h163.any
          clear h163
          obtain ⟨u_d, v_d, w_d, h_d, A_d, n_d, c_d, rfl, hvd⟩ := k163
          refine RS.perm List.perm_append_comm ?_
          refine RS.q rfl (QO.move) ?_
          refine RS.q rfl (QO.extract (by rfl) (by rfl)) ?_
          refine RS.q rfl (QO.extract (by rfl) (by rfl)) ?_
          refine RS.alloc rfl ty26 ?_
          intro g23
          first | refine RS.storeB ty26 (by rfl) (by rfl) (by rfl) (by rfl) (by rfl) (by repeat (first | exact Upd.head | apply Upd.tail)) (by rfl) ?_ | refine RS.storeP ty26 (by rfl) (by rfl) (by rfl) (by rfl) (by rfl) (by repeat (first | exact Upd.head | apply Upd.tail)) (by rfl) ?_
          refine RS.q rfl (QO.assign) ?_
          refine RS.nil ?_
          refine thenC_n ?_
          refine CS.seq ?_
          refine CS.seq ?_
          refine CS.region ?_
          refine RS.q rfl (QO.fieldAddr fo26_0 (by rfl)) ?_
          first | (refine RS.q rfl (QO.loadB ty23 (by rfl) (by repeat (first | exact List.Mem.head _ | refine List.Mem.tail _ ?_)) (by rfl)) ?_) | (refine RS.q rfl (QO.loadA ty23 (by rfl) (by repeat (first | exact List.Mem.head _ | refine List.Mem.tail _ ?_)) (by rfl) (by rfl)) ?_) | (refine RS.q rfl (QO.loadOA ty23 (by rfl) (by assumption) (by rfl)) ?_)
          refine RS.q rfl (QO.fieldAddr fo26_0 (by rfl)) ?_
          first | (refine RS.q rfl (QO.loadB ty23 (by rfl) (by repeat (first | exact List.Mem.head _ | refine List.Mem.tail _ ?_)) (by rfl)) ?_) | (refine RS.q rfl (QO.loadA ty23 (by rfl) (by repeat (first | exact List.Mem.head _ | refine List.Mem.tail _ ?_)) (by rfl) (by rfl)) ?_) | (refine RS.q rfl (QO.loadOA ty23 (by rfl) (by assumption) (by rfl)) ?_)
          refine RS.call rfl (by rfl) ok43 (by rfl) (fun w ho => rcommon X Y a b X2 Y2 a2 b2 _ (by omega) (by omega) (by omega) (by omega) (by omega) (by omega) (by omega) (by omega)) ?_
          rintro _ _ ⟨rfl, rfl⟩
          refine RS.q rfl (QO.move) ?_
          refine RS.q rfl (QO.extract (by rfl) (by rfl)) ?_
          refine RS.q rfl (QO.extract (by rfl) (by rfl)) ?_
          refine RS.alloc rfl ty23 ?_
          intro g24
          first | refine RS.storeB ty23 (by rfl) (by rfl) (by rfl) (by rfl) (by rfl) (by repeat (first | exact Upd.head | apply Upd.tail)) (by rfl) ?_ | refine RS.storeP ty23 (by rfl) (by rfl) (by rfl) (by rfl) (by rfl) (by repeat (first | exact Upd.head | apply Upd.tail)) (by rfl) ?_
          refine RS.q rfl (QO.assign) ?_
          refine RS.nil ?_
          refine thenC_n ?_
          refine CS.seq ?_
          refine CS.region ?_
          refine RS.q rfl (QO.move) ?_
          refine RS.q rfl (QO.not (by rfl)) ?_
          refine RS.nil ?_
          refine thenC_n ?_
          refine CS.cond (by rfl) (fun hb4 => ?_) (fun hb4 => ?_)
          · have hb4p := Eq.mp (Bool.not_eq_true' _) hb4
            refine CS.seq ?_
            refine CS.region ?_
            refine RS.q rfl (QO.move) ?_
            refine RS.qv rfl (QO.eql (by rfl) (by rfl)) (congrArg Value.bool (show (pstE X Y a b X2 Y2 a2 b2 == 5) = true from by rw [pstE_F hb4p]; rfl)) ?_
            refine RS.q rfl (QO.move) ?_
            refine RS.on (dj := 178) rfl (congrArg Value.bool rfl) ?_
            refine RS.q rfl (QO.fieldAddr fo26_1 (by rfl)) ?_
            refine RS.on (dj := 178) rfl (congrArg Value.bool rfl) ?_
            first | (refine RS.q rfl (QO.load ty24 (by rfl) (by repeat (first | exact List.Mem.head _ | refine List.Mem.tail _ ?_)) (by rfl)) ?_) | (refine RS.q rfl (QO.loadO ty24 (by rfl) (by assumption)) ?_) | (refine RS.q rfl (QO.load ty24 (by rfl) (by repeat (first | exact List.Mem.head _ | refine List.Mem.tail _ ?_)) (by assumption)) ?_)
            refine RS.on (dj := 178) rfl (congrArg Value.bool rfl) ?_
            refine RS.q rfl (QO.lenS Try.underlying24 (by rfl)) ?_
            refine RS.on (dj := 178) rfl (congrArg Value.bool rfl) ?_
            refine RS.qv rfl (QO.eql (by rfl) (by rfl)) (congrArg Value.bool (show ((n_d : Int) == 0) = true from by rw [hvd.n0 (by rw [pstE_F hb4p]; decide)]; rfl)) ?_
            refine RS.q rfl (QO.pickT (by rfl) rfl (by rfl)) ?_
            refine RS.q rfl (QO.assign) ?_
            refine RS.nil ?_
            refine thenC_n ?_
            refine CS.ret ?_
            refine thenC_r ?_
            refine retQ.mk (H' := []) (.inr rfl) (RVs.tmp (by rfl) RVs.nil) (List.nil_sublist _) ?_
            exact ⟨rfl, rfl⟩
          · have hb4p := Eq.mp (Bool.not_eq_false' _) hb4
            refine CS.skip ?_
            refine thenC_n ?_
            refine CS.seq ?_
            refine CS.draw 19 rfl (by kernel_rfl) (by kernel_rfl) ?_
            have hcb := hb4p
            refine RT.take (i := 0) rfl (by kernel_rfl) rfl (QO.move) ?_
            refine RT.takev (i := 1) rfl (by kernel_rfl) rfl (QO.eql (by rfl) (by rfl)) (congrArg Value.bool (show (pstE X Y a b X2 Y2 a2 b2 == 0) = true from by rw [pstE_T hcb]; rfl)) ?_
            refine RT.take (i := 2) rfl (by kernel_rfl) rfl (QO.move) ?_
            first | (refine RT.takeOn (i := 3) (dj := 186) rfl rfl (congrArg Value.bool rfl) (by kernel_rfl) rfl (QO.loadB ty26 (by rfl) (by repeat (first | exact List.Mem.head _ | refine List.Mem.tail _ ?_)) (by rfl)) ?_) | (refine RT.takeOn (i := 3) (dj := 186) rfl rfl (congrArg Value.bool rfl) (by kernel_rfl) rfl (QO.loadA ty26 (by rfl) (by repeat (first | exact List.Mem.head _ | refine List.Mem.tail _ ?_)) (by rfl) (by rfl)) ?_) | (refine RT.takeOn (i := 3) (dj := 186) rfl rfl (congrArg Value.bool rfl) (by kernel_rfl) rfl (QO.loadOA ty26 (by rfl) (by assumption) (by rfl)) ?_)
            first | (refine RT.takeOn (i := 4) (dj := 186) rfl rfl (congrArg Value.bool rfl) (by kernel_rfl) rfl (QO.loadB ty26 (by rfl) (by repeat (first | exact List.Mem.head _ | refine List.Mem.tail _ ?_)) (by rfl)) ?_) | (refine RT.takeOn (i := 4) (dj := 186) rfl rfl (congrArg Value.bool rfl) (by kernel_rfl) rfl (QO.loadA ty26 (by rfl) (by repeat (first | exact List.Mem.head _ | refine List.Mem.tail _ ?_)) (by rfl) (by rfl)) ?_) | (refine RT.takeOn (i := 4) (dj := 186) rfl rfl (congrArg Value.bool rfl) (by kernel_rfl) rfl (QO.loadOA ty26 (by rfl) (by assumption) (by rfl)) ?_)
            first | (refine RT.takeOn (i := 5) (dj := 186) rfl rfl (congrArg Value.bool rfl) (by kernel_rfl) rfl (QO.loadB ty26 (by rfl) (by repeat (first | exact List.Mem.head _ | refine List.Mem.tail _ ?_)) (by rfl)) ?_) | (refine RT.takeOn (i := 5) (dj := 186) rfl rfl (congrArg Value.bool rfl) (by kernel_rfl) rfl (QO.loadA ty26 (by rfl) (by repeat (first | exact List.Mem.head _ | refine List.Mem.tail _ ?_)) (by rfl) (by rfl)) ?_) | (refine RT.takeOn (i := 5) (dj := 186) rfl rfl (congrArg Value.bool rfl) (by kernel_rfl) rfl (QO.loadOA ty26 (by rfl) (by assumption) (by rfl)) ?_)
            refine RT.one (i := 6) (by kernel_rfl) rfl rfl ?_
            refine RS.on (dj := 186) rfl (congrArg Value.bool rfl) ?_
            refine RS.call rfl (by rfl) ok101 (by rfl) (fun w ho => rpaste X Y a b _ _ _ ys X2 Y2 a2 b2 _ _ _ zs _ rfl (FS.blk' ho (by repeat (first | exact List.Mem.head _ | refine List.Mem.tail _ ?_))) hys (Nat.le_refl _) (by unfold maxLen; omega) (by omega) (by omega) (by omega) (by omega) rfl (FS.blk' ho (by repeat (first | exact List.Mem.head _ | refine List.Mem.tail _ ?_))) hzs (by omega) (by omega) (by omega) (by omega) (Nat.le_refl _)) ?_
            intro v190 H190 h190
            obtain ⟨gm190, cm190, jm190, rfl, rfl, hcm190, hcx190⟩ := h190
            refine RS.nil ⟨(by repeat (first | exact List.Sublist.refl _ | exact List.nil_sublist _ | refine List.Sublist.cons_cons _ ?_ | refine List.Sublist.cons _ ?_ | exact Sbp.refl | exact Sbp.nil | refine Sbp.cons (by repeat (first | exact Rem.head | apply Rem.tail)) ?_ | exact Sbp.app | refine Sbp.skip ?_)), ?_⟩
            refine RT.one (i := 7) (by kernel_rfl) rfl rfl ?_
            refine RS.on (dj := 186) rfl (congrArg Value.bool rfl) ?_
            refine RS.call rfl (by rfl) ok33 (by rfl) (fun w ho => sameFW (pstE X Y a b X2 Y2 a2 b2) X Y a b (pstV ys zs X Y a b X2 Y2 a2 b2) (pstV ys zs X Y a b X2 Y2 a2 b2) _ _ _ _ _ _ _ _ _ _ w (hvd.fw ho (fun q hq => by simp [hq])) (pstE_T hcb) rfl (by rfl) (FS.blk ho (by repeat (first | exact List.Mem.head _ | refine List.Mem.tail _ ?_)))) ?_
            rintro _ _ ⟨rfl, rfl⟩
            refine RS.nil ⟨(by repeat (first | exact List.Sublist.refl _ | exact List.nil_sublist _ | refine List.Sublist.cons_cons _ ?_ | refine List.Sublist.cons _ ?_ | exact Sbp.refl | exact Sbp.nil | refine Sbp.cons (by repeat (first | exact Rem.head | apply Rem.tail)) ?_ | exact Sbp.app | refine Sbp.skip ?_)), ?_⟩
            refine RT.take (i := 8) rfl (by kernel_rfl) rfl (QO.pickT (by rfl) rfl (by rfl)) ?_
            refine RT.take (i := 9) rfl (by kernel_rfl) rfl (QO.move) ?_
            first | (refine RT.takeOn (i := 10) (dj := 193) rfl rfl (congrArg Value.bool rfl) (by kernel_rfl) rfl (QO.loadB ty26 (by rfl) (by repeat (first | exact List.Mem.head _ | refine List.Mem.tail _ ?_)) (by rfl)) ?_) | (refine RT.takeOn (i := 10) (dj := 193) rfl rfl (congrArg Value.bool rfl) (by kernel_rfl) rfl (QO.loadA ty26 (by rfl) (by repeat (first | exact List.Mem.head _ | refine List.Mem.tail _ ?_)) (by rfl) (by rfl)) ?_) | (refine RT.takeOn (i := 10) (dj := 193) rfl rfl (congrArg Value.bool rfl) (by kernel_rfl) rfl (QO.loadOA ty26 (by rfl) (by assumption) (by rfl)) ?_)
            first | (refine RT.takeOn (i := 11) (dj := 193) rfl rfl (congrArg Value.bool rfl) (by kernel_rfl) rfl (QO.loadB ty26 (by rfl) (by repeat (first | exact List.Mem.head _ | refine List.Mem.tail _ ?_)) (by rfl)) ?_) | (refine RT.takeOn (i := 11) (dj := 193) rfl rfl (congrArg Value.bool rfl) (by kernel_rfl) rfl (QO.loadA ty26 (by rfl) (by repeat (first | exact List.Mem.head _ | refine List.Mem.tail _ ?_)) (by rfl) (by rfl)) ?_) | (refine RT.takeOn (i := 11) (dj := 193) rfl rfl (congrArg Value.bool rfl) (by kernel_rfl) rfl (QO.loadOA ty26 (by rfl) (by assumption) (by rfl)) ?_)
            first | (refine RT.takeOn (i := 13) (dj := 193) rfl rfl (congrArg Value.bool rfl) (by kernel_rfl) rfl (QO.loadB ty26 (by rfl) (by repeat (first | exact List.Mem.head _ | refine List.Mem.tail _ ?_)) (by rfl)) ?_) | (refine RT.takeOn (i := 13) (dj := 193) rfl rfl (congrArg Value.bool rfl) (by kernel_rfl) rfl (QO.loadA ty26 (by rfl) (by repeat (first | exact List.Mem.head _ | refine List.Mem.tail _ ?_)) (by rfl) (by rfl)) ?_) | (refine RT.takeOn (i := 13) (dj := 193) rfl rfl (congrArg Value.bool rfl) (by kernel_rfl) rfl (QO.loadOA ty26 (by rfl) (by assumption) (by rfl)) ?_)
            first | (refine RT.takeOn (i := 14) (dj := 193) rfl rfl (congrArg Value.bool rfl) (by kernel_rfl) rfl (QO.loadB ty26 (by rfl) (by repeat (first | exact List.Mem.head _ | refine List.Mem.tail _ ?_)) (by rfl)) ?_) | (refine RT.takeOn (i := 14) (dj := 193) rfl rfl (congrArg Value.bool rfl) (by kernel_rfl) rfl (QO.loadA ty26 (by rfl) (by repeat (first | exact List.Mem.head _ | refine List.Mem.tail _ ?_)) (by rfl) (by rfl)) ?_) | (refine RT.takeOn (i := 14) (dj := 193) rfl rfl (congrArg Value.bool rfl) (by kernel_rfl) rfl (QO.loadOA ty26 (by rfl) (by assumption) (by rfl)) ?_)
            refine RT.one (i := 12) (by kernel_rfl) rfl rfl ?_
            refine RS.on (dj := 193) rfl (congrArg Value.bool rfl) ?_
            refine RS.call rfl (by rfl) ok105 (by rfl) (fun w ho => same_ X Y a b X2 Y2 a2 b2 _ _ _ _ _ _ ys zs w rfl rfl (FS.blk' ho (by repeat (first | exact List.Mem.head _ | refine List.Mem.tail _ ?_))) (FS.blk' ho (by repeat (first | exact List.Mem.head _ | refine List.Mem.tail _ ?_))) (by unfold maxLen; omega)) ?_
            rintro _ _ ⟨rfl, rfl⟩
            refine RS.nil ⟨(by repeat (first | exact List.Sublist.refl _ | exact List.nil_sublist _ | refine List.Sublist.cons_cons _ ?_ | refine List.Sublist.cons _ ?_ | exact Sbp.refl | exact Sbp.nil | refine Sbp.cons (by repeat (first | exact Rem.head | apply Rem.tail)) ?_ | exact Sbp.app | refine Sbp.skip ?_)), ?_⟩
            refine RT.one (i := 15) (by kernel_rfl) rfl rfl ?_
            refine RS.on (dj := 193) rfl (congrArg Value.bool rfl) ?_
            refine RS.call rfl (by rfl) ok106 (by rfl) (fun w ho => rsame X Y a b X2 Y2 a2 b2 _ _ _ _ _ _ ys zs w rfl rfl (FS.blk' ho (by repeat (first | exact List.Mem.head _ | refine List.Mem.tail _ ?_))) (FS.blk' ho (by repeat (first | exact List.Mem.head _ | refine List.Mem.tail _ ?_))) (by unfold maxLen; omega)) ?_
            rintro _ _ ⟨rfl, rfl⟩
            refine RS.nil ⟨(by repeat (first | exact List.Sublist.refl _ | exact List.nil_sublist _ | refine List.Sublist.cons_cons _ ?_ | refine List.Sublist.cons _ ?_ | exact Sbp.refl | exact Sbp.nil | refine Sbp.cons (by repeat (first | exact Rem.head | apply Rem.tail)) ?_ | exact Sbp.app | refine Sbp.skip ?_)), ?_⟩
            refine RT.takeOnv (i := 16) (dj := 193) rfl rfl (congrArg Value.bool rfl) (by kernel_rfl) rfl (QO.beql Try.underlying4 (by rfl) (by rfl)) (congrArg Value.bool (beq_self_eq_true _)) ?_
            refine RT.take (i := 17) rfl (by kernel_rfl) rfl (QO.pickT (by rfl) rfl (by rfl)) ?_
            refine RT.take (i := 18) rfl (by kernel_rfl) rfl (QO.assign) ?_
            refine RT.done (by kernel_rfl) ?_
            refine thenC_n ?_
            refine CS.ret ?_
            refine retQ.mk (H' := []) (.inr rfl) (RVs.tmp (by rfl) RVs.nil) (List.nil_sublist _) ?_
            exact ⟨rfl, rfl⟩

end Go.Proofs.Ytplfeaikjgfhcaa
