/-
  Contract: FramesMix. Conditions: as the theorem says.
-/
import Derived.Test.YtplfeaikjgfhcaaC8
namespace Go.Proofs.Ytplfeaikjgfhcaa
open Go Go.Proofs Go.RowKit

theorem ok21 : callOK Try.prog 21 = true := by kernel_rfl
theorem ok48 : callOK Try.prog 48 = true := by kernel_rfl
theorem ok51 : callOK Try.prog 51 = true := by kernel_rfl
theorem ok52 : callOK Try.prog 52 = true := by kernel_rfl
theorem ok53 : callOK Try.prog 53 = true := by kernel_rfl
theorem ok54 : callOK Try.prog 54 = true := by kernel_rfl
theorem ok55 : callOK Try.prog 55 = true := by kernel_rfl
theorem ok56 : callOK Try.prog 56 = true := by kernel_rfl

theorem frErr_small {X Y : Int} {a b n : Nat} (hn : n = 4 * (a * b)) (ha : 1 ≤ a ∧ a ≤ 8) (hb : 1 ≤ b ∧ b ≤ 8) (hX : -1000 ≤ X ∧ X ≤ 1000) (hY : -1000 ≤ Y ∧ Y ≤ 1000) : frErr X Y a b n = 0 := by
  have h6 : ((a * b : Nat) : Int) = (a : Int) * (b : Int) := Int.natCast_mul ..
  have h7 : 4 * (a : Int) * (b : Int) = 4 * ((a : Int) * (b : Int)) := Int.mul_assoc ..
  unfold frErr
  rw [regErr_small ha hb hX hY, if_neg (by simp), if_neg (by omega)]
/-- a frame that fit has made, and where its numbers stand -/
structure FitS where
  X : Int
  Y : Int
  a : Nat
  b : Nat
  g : Nat
  ys : List Nat
def FitS.ok (f : FitS) : Prop := f.ys.length = 4 * (f.a * f.b) ∧ (1 ≤ f.a ∧ f.a ≤ 8) ∧ (1 ≤ f.b ∧ f.b ≤ 8) ∧ (-1000 ≤ f.X ∧ f.X ≤ 1000) ∧ (-1000 ≤ f.Y ∧ f.Y ≤ 1000) ∧ f.a * f.b ≤ 64
theorem thE_of {e : Int} (r r2 r3 : List Int) (h : e ≠ 0) : thE e r r2 r3 = e := if_pos h

set_option maxRecDepth 100000 in
theorem framesMix (x y wi he x2 y2 wi2 he2 : Int) (A A2 : Option Addr) (n c n2 c2 : Nat) (xs xs2 : List Nat) (t : Nat) (mx my mw mh : Int) (C : Option Addr) (n3 c3 : Nat) (ms : List Nat) (apart : Bool) (W : World) (hn : xs.length = n) (hA : FS W A xs) (hlx : n ≤ maxLen) (hn2 : xs2.length = n2) (hA2 : FS W A2 xs2) (hlx2 : n2 ≤ maxLen) (hbx : -9223372036854775808 ≤ mx ∧ mx ≤ 9223372036854775807) (hn3 : ms.length = n3) (hC : FS W C ms) (hlx3 : n3 ≤ maxLen) : Fn_ Try.prog 8 #[.agg #[iv x, iv y, iv wi, iv he, .slice A n c], .agg #[iv x2, iv y2, iv wi2, iv he2, .slice A2 n2 c2], flt t, .agg #[iv mx, iv my, iv mw, iv mh, .slice C n3 c3], .bool apart] W (fun v H => v = .bool true ∧ H = []) := by
  refine Fn_.intro Try.func8 rfl rfl (by rfl) ?_
  refine CS.seq ?_
  refine CS.region ?_
  refine RS.box rfl (by rfl) (by rfl) ?_
  intro g5
  refine RS.box rfl (by rfl) (by rfl) ?_
  intro g6
  refine RS.box rfl (by rfl) (by rfl) ?_
  intro g8
  refine RS.q rfl (QO.assign) ?_
  refine RS.nil ?_
  refine thenC_n ?_
  refine CS.seq ?_
  refine CS.seq ?_
  refine CS.region ?_
  refine RS.call rfl (by rfl) ok19 (by rfl) (fun w ho => landed _) ?_
  rintro _ _ ⟨rfl, rfl⟩
  refine RS.q rfl (QO.not (by rfl)) ?_
  refine RS.nil ?_
  refine thenC_n ?_
  refine CS.condF (by rfl) rfl ?_
  refine CS.skip ?_
  refine thenC_n ?_
  refine CS.cut (X := FitS × FitS) [19, 20, 21, 22] (fun z => []) (fun z => [⟨g6, 26, [iv z.2.X, iv z.2.Y, iv (z.2.a : Int), iv (z.2.b : Int), .slice (some ⟨z.2.g, 0, none⟩) z.2.ys.length z.2.ys.length]⟩, ⟨g5, 26, [iv z.1.X, iv z.1.Y, iv (z.1.a : Int), iv (z.1.b : Int), .slice (some ⟨z.1.g, 0, none⟩) z.1.ys.length z.1.ys.length]⟩, ⟨z.2.g, 33, z.2.ys.map flt⟩, ⟨z.1.g, 33, z.1.ys.map flt⟩, ⟨g8, 64, [iv mx, iv my, iv mw, iv mh, .slice C n3 c3]⟩]) (fun z => z.1.ok ∧ z.2.ok) ?_ ?_
  · refine CS.drawS (HS := []) 6 (by repeat (first | exact List.Sublist.refl _ | exact List.nil_sublist _ | refine List.Sublist.cons_cons _ ?_ | refine List.Sublist.cons _ ?_ | exact Sbp.refl | exact Sbp.nil | refine Sbp.cons (by repeat (first | exact Rem.head | apply Rem.tail)) ?_ | exact Sbp.app | refine Sbp.skip ?_)) rfl (by kernel_rfl) (by kernel_rfl) ?_
    refine RT.two (i := 0) (j := 2) (by kernel_rfl) rfl rfl ?_ ?_
    · first | (refine RS.q rfl (QO.loadB ty26 (by rfl) (by repeat (first | exact List.Mem.head _ | refine List.Mem.tail _ ?_)) (by rfl)) ?_) | (refine RS.q rfl (QO.loadA ty26 (by rfl) (by repeat (first | exact List.Mem.head _ | refine List.Mem.tail _ ?_)) (by rfl) (by rfl)) ?_) | (refine RS.q rfl (QO.loadOA ty26 (by rfl) (by assumption) (by rfl)) ?_)
      refine RS.nil ⟨(by repeat (first | exact List.Sublist.refl _ | exact List.nil_sublist _ | refine List.Sublist.cons_cons _ ?_ | refine List.Sublist.cons _ ?_ | exact Sbp.refl | exact Sbp.nil | refine Sbp.cons (by repeat (first | exact Rem.head | apply Rem.tail)) ?_ | exact Sbp.app | refine Sbp.skip ?_)), ?_⟩
      refine RT.two (i := 1) (j := 2) (by kernel_rfl) rfl rfl ?_ ?_
      · refine RS.call rfl (by rfl) ok20 (by rfl) (fun w ho => fit' x y wi he A n c xs w hn (hA.own ho) hlx) ?_
        intro v20 H20 h20
        obtain ⟨gf, X, Y, a, b, ys, rfl, rfl, hys, ha, hb, hX, hY, hab⟩ := h20
        refine RS.nil ⟨(by repeat (first | exact List.Sublist.refl _ | exact List.nil_sublist _ | refine List.Sublist.cons_cons _ ?_ | refine List.Sublist.cons _ ?_ | exact Sbp.refl | exact Sbp.nil | refine Sbp.cons (by repeat (first | exact Rem.head | apply Rem.tail)) ?_ | exact Sbp.app | refine Sbp.skip ?_)), ?_⟩
        refine RT.one (i := 2) (by kernel_rfl) rfl rfl ?_
        first | (refine RS.q rfl (QO.loadB ty26 (by rfl) (by repeat (first | exact List.Mem.head _ | refine List.Mem.tail _ ?_)) (by rfl)) ?_) | (refine RS.q rfl (QO.loadA ty26 (by rfl) (by repeat (first | exact List.Mem.head _ | refine List.Mem.tail _ ?_)) (by rfl) (by rfl)) ?_) | (refine RS.q rfl (QO.loadOA ty26 (by rfl) (by assumption) (by rfl)) ?_)
        refine RS.nil ⟨(by repeat (first | exact List.Sublist.refl _ | exact List.nil_sublist _ | refine List.Sublist.cons_cons _ ?_ | refine List.Sublist.cons _ ?_ | exact Sbp.refl | exact Sbp.nil | refine Sbp.cons (by repeat (first | exact Rem.head | apply Rem.tail)) ?_ | exact Sbp.app | refine Sbp.skip ?_)), ?_⟩
        refine RT.one (i := 3) (by kernel_rfl) rfl rfl ?_
        refine RS.call rfl (by rfl) ok20 (by rfl) (fun w ho => fit' x2 y2 wi2 he2 A2 n2 c2 xs2 w hn2 (hA2.own ho) hlx2) ?_
        intro v22 H22 h22
        obtain ⟨gf2, X0, Y0, a0, b0, ys2, rfl, rfl, hys2, ha0, hb0_, hX0, hY0, hab0⟩ := h22
        refine RS.nil ⟨(by repeat (first | exact List.Sublist.refl _ | exact List.nil_sublist _ | refine List.Sublist.cons_cons _ ?_ | refine List.Sublist.cons _ ?_ | exact Sbp.refl | exact Sbp.nil | refine Sbp.cons (by repeat (first | exact Rem.head | apply Rem.tail)) ?_ | exact Sbp.app | refine Sbp.skip ?_)), ?_⟩
        refine RT.one (i := 4) (by kernel_rfl) rfl rfl ?_
        first | refine RS.storeB ty26 (by rfl) (by rfl) (by rfl) (by rfl) (by rfl) (by repeat (first | exact Upd.head | apply Upd.tail)) (by rfl) ?_ | refine RS.storeP ty26 (by rfl) (by rfl) (by rfl) (by rfl) (by rfl) (by repeat (first | exact Upd.head | apply Upd.tail)) (by rfl) ?_
        refine RS.nil ⟨(by repeat (first | exact List.Sublist.refl _ | exact List.nil_sublist _ | refine List.Sublist.cons_cons _ ?_ | refine List.Sublist.cons _ ?_ | exact Sbp.refl | exact Sbp.nil | refine Sbp.cons (by repeat (first | exact Rem.head | apply Rem.tail)) ?_ | exact Sbp.app | refine Sbp.skip ?_)), ?_⟩
        refine RT.one (i := 5) (by kernel_rfl) rfl rfl ?_
        first | refine RS.storeB ty26 (by rfl) (by rfl) (by rfl) (by rfl) (by rfl) (by repeat (first | exact Upd.head | apply Upd.tail)) (by rfl) ?_ | refine RS.storeP ty26 (by rfl) (by rfl) (by rfl) (by rfl) (by rfl) (by repeat (first | exact Upd.head | apply Upd.tail)) (by rfl) ?_
        refine RS.nil ⟨(by repeat (first | exact List.Sublist.refl _ | exact List.nil_sublist _ | refine List.Sublist.cons_cons _ ?_ | refine List.Sublist.cons _ ?_ | exact Sbp.refl | exact Sbp.nil | refine Sbp.cons (by repeat (first | exact Rem.head | apply Rem.tail)) ?_ | exact Sbp.app | refine Sbp.skip ?_)), ?_⟩
        refine RT.done (by kernel_rfl) ?_
        refine cutQ_n (by intro t ht; repeat (first | exact frame_puts ht (frame_mix ht) _ rfl | (refine frame_put rfl ht ?_) | (refine frame_puts ht ?_ _ rfl) | exact frame_mix ht | (refine frame_mix2 rfl ht ?_) | exact rfl)) ?_
        exact ⟨(⟨X, Y, a, b, gf, ys⟩, ⟨X0, Y0, a0, b0, gf2, ys2⟩), ⟨⟨hys, ha, hb, hX, hY, hab⟩, ⟨hys2, ha0, hb0_, hX0, hY0, hab0⟩⟩, (by repeat (first | exact kn_nil | refine kn_cons (by rfl) ?_)), (by repeat (first | exact List.Sublist.refl _ | exact List.nil_sublist _ | refine List.Sublist.cons_cons _ ?_ | refine List.Sublist.cons _ ?_ | exact Sbp.refl | exact Sbp.nil | refine Sbp.cons (by repeat (first | exact Rem.head | apply Rem.tail)) ?_ | exact Sbp.app | refine Sbp.skip ?_))⟩
      · first | (refine RS.q rfl (QO.loadB ty26 (by rfl) (by repeat (first | exact List.Mem.head _ | refine List.Mem.tail _ ?_)) (by rfl)) ?_) | (refine RS.q rfl (QO.loadA ty26 (by rfl) (by repeat (first | exact List.Mem.head _ | refine List.Mem.tail _ ?_)) (by rfl) (by rfl)) ?_) | (refine RS.q rfl (QO.loadOA ty26 (by rfl) (by assumption) (by rfl)) ?_)
        refine RS.nil ⟨(by repeat (first | exact List.Sublist.refl _ | exact List.nil_sublist _ | refine List.Sublist.cons_cons _ ?_ | refine List.Sublist.cons _ ?_ | exact Sbp.refl | exact Sbp.nil | refine Sbp.cons (by repeat (first | exact Rem.head | apply Rem.tail)) ?_ | exact Sbp.app | refine Sbp.skip ?_)), ?_⟩
        refine RT.one (i := 1) (by kernel_rfl) rfl rfl ?_
        refine RS.call rfl (by rfl) ok20 (by rfl) (fun w ho => fit' x y wi he A n c xs w hn (hA.own ho) hlx) ?_
        intro v20 H20 h20
        obtain ⟨gf, X, Y, a, b, ys, rfl, rfl, hys, ha, hb, hX, hY, hab⟩ := h20
        refine RS.nil ⟨(by repeat (first | exact List.Sublist.refl _ | exact List.nil_sublist _ | refine List.Sublist.cons_cons _ ?_ | refine List.Sublist.cons _ ?_ | exact Sbp.refl | exact Sbp.nil | refine Sbp.cons (by repeat (first | exact Rem.head | apply Rem.tail)) ?_ | exact Sbp.app | refine Sbp.skip ?_)), ?_⟩
        refine RT.one (i := 3) (by kernel_rfl) rfl rfl ?_
        refine RS.call rfl (by rfl) ok20 (by rfl) (fun w ho => fit' x2 y2 wi2 he2 A2 n2 c2 xs2 w hn2 (hA2.own ho) hlx2) ?_
        intro v22 H22 h22
        obtain ⟨gf2, X0, Y0, a0, b0, ys2, rfl, rfl, hys2, ha0, hb0_, hX0, hY0, hab0⟩ := h22
        refine RS.nil ⟨(by repeat (first | exact List.Sublist.refl _ | exact List.nil_sublist _ | refine List.Sublist.cons_cons _ ?_ | refine List.Sublist.cons _ ?_ | exact Sbp.refl | exact Sbp.nil | refine Sbp.cons (by repeat (first | exact Rem.head | apply Rem.tail)) ?_ | exact Sbp.app | refine Sbp.skip ?_)), ?_⟩
        refine RT.one (i := 4) (by kernel_rfl) rfl rfl ?_
        first | refine RS.storeB ty26 (by rfl) (by rfl) (by rfl) (by rfl) (by rfl) (by repeat (first | exact Upd.head | apply Upd.tail)) (by rfl) ?_ | refine RS.storeP ty26 (by rfl) (by rfl) (by rfl) (by rfl) (by rfl) (by repeat (first | exact Upd.head | apply Upd.tail)) (by rfl) ?_
        refine RS.nil ⟨(by repeat (first | exact List.Sublist.refl _ | exact List.nil_sublist _ | refine List.Sublist.cons_cons _ ?_ | refine List.Sublist.cons _ ?_ | exact Sbp.refl | exact Sbp.nil | refine Sbp.cons (by repeat (first | exact Rem.head | apply Rem.tail)) ?_ | exact Sbp.app | refine Sbp.skip ?_)), ?_⟩
        refine RT.one (i := 5) (by kernel_rfl) rfl rfl ?_
        first | refine RS.storeB ty26 (by rfl) (by rfl) (by rfl) (by rfl) (by rfl) (by repeat (first | exact Upd.head | apply Upd.tail)) (by rfl) ?_ | refine RS.storeP ty26 (by rfl) (by rfl) (by rfl) (by rfl) (by rfl) (by repeat (first | exact Upd.head | apply Upd.tail)) (by rfl) ?_
        refine RS.nil ⟨(by repeat (first | exact List.Sublist.refl _ | exact List.nil_sublist _ | refine List.Sublist.cons_cons _ ?_ | refine List.Sublist.cons _ ?_ | exact Sbp.refl | exact Sbp.nil | refine Sbp.cons (by repeat (first | exact Rem.head | apply Rem.tail)) ?_ | exact Sbp.app | refine Sbp.skip ?_)), ?_⟩
        refine RT.done (by kernel_rfl) ?_
        refine cutQ_n (by intro t ht; repeat (first | exact frame_puts ht (frame_mix ht) _ rfl | (refine frame_put rfl ht ?_) | (refine frame_puts ht ?_ _ rfl) | exact frame_mix ht | (refine frame_mix2 rfl ht ?_) | exact rfl)) ?_
        exact ⟨(⟨X, Y, a, b, gf, ys⟩, ⟨X0, Y0, a0, b0, gf2, ys2⟩), ⟨⟨hys, ha, hb, hX, hY, hab⟩, ⟨hys2, ha0, hb0_, hX0, hY0, hab0⟩⟩, (by repeat (first | exact kn_nil | refine kn_cons (by rfl) ?_)), (by repeat (first | exact List.Sublist.refl _ | exact List.nil_sublist _ | refine List.Sublist.cons_cons _ ?_ | refine List.Sublist.cons _ ?_ | exact Sbp.refl | exact Sbp.nil | refine Sbp.cons (by repeat (first | exact Rem.head | apply Rem.tail)) ?_ | exact Sbp.app | refine Sbp.skip ?_))⟩
    · first | (refine RS.q rfl (QO.loadB ty26 (by rfl) (by repeat (first | exact List.Mem.head _ | refine List.Mem.tail _ ?_)) (by rfl)) ?_) | (refine RS.q rfl (QO.loadA ty26 (by rfl) (by repeat (first | exact List.Mem.head _ | refine List.Mem.tail _ ?_)) (by rfl) (by rfl)) ?_) | (refine RS.q rfl (QO.loadOA ty26 (by rfl) (by assumption) (by rfl)) ?_)
      refine RS.nil ⟨(by repeat (first | exact List.Sublist.refl _ | exact List.nil_sublist _ | refine List.Sublist.cons_cons _ ?_ | refine List.Sublist.cons _ ?_ | exact Sbp.refl | exact Sbp.nil | refine Sbp.cons (by repeat (first | exact Rem.head | apply Rem.tail)) ?_ | exact Sbp.app | refine Sbp.skip ?_)), ?_⟩
      refine RT.one (i := 0) (by kernel_rfl) rfl rfl ?_
      first | (refine RS.q rfl (QO.loadB ty26 (by rfl) (by repeat (first | exact List.Mem.head _ | refine List.Mem.tail _ ?_)) (by rfl)) ?_) | (refine RS.q rfl (QO.loadA ty26 (by rfl) (by repeat (first | exact List.Mem.head _ | refine List.Mem.tail _ ?_)) (by rfl) (by rfl)) ?_) | (refine RS.q rfl (QO.loadOA ty26 (by rfl) (by assumption) (by rfl)) ?_)
      refine RS.nil ⟨(by repeat (first | exact List.Sublist.refl _ | exact List.nil_sublist _ | refine List.Sublist.cons_cons _ ?_ | refine List.Sublist.cons _ ?_ | exact Sbp.refl | exact Sbp.nil | refine Sbp.cons (by repeat (first | exact Rem.head | apply Rem.tail)) ?_ | exact Sbp.app | refine Sbp.skip ?_)), ?_⟩
      refine RT.one (i := 1) (by kernel_rfl) rfl rfl ?_
      refine RS.call rfl (by rfl) ok20 (by rfl) (fun w ho => fit' x y wi he A n c xs w hn (hA.own ho) hlx) ?_
      intro v20 H20 h20
      obtain ⟨gf, X, Y, a, b, ys, rfl, rfl, hys, ha, hb, hX, hY, hab⟩ := h20
      refine RS.nil ⟨(by repeat (first | exact List.Sublist.refl _ | exact List.nil_sublist _ | refine List.Sublist.cons_cons _ ?_ | refine List.Sublist.cons _ ?_ | exact Sbp.refl | exact Sbp.nil | refine Sbp.cons (by repeat (first | exact Rem.head | apply Rem.tail)) ?_ | exact Sbp.app | refine Sbp.skip ?_)), ?_⟩
      refine RT.one (i := 3) (by kernel_rfl) rfl rfl ?_
      refine RS.call rfl (by rfl) ok20 (by rfl) (fun w ho => fit' x2 y2 wi2 he2 A2 n2 c2 xs2 w hn2 (hA2.own ho) hlx2) ?_
      intro v22 H22 h22
      obtain ⟨gf2, X0, Y0, a0, b0, ys2, rfl, rfl, hys2, ha0, hb0_, hX0, hY0, hab0⟩ := h22
      refine RS.nil ⟨(by repeat (first | exact List.Sublist.refl _ | exact List.nil_sublist _ | refine List.Sublist.cons_cons _ ?_ | refine List.Sublist.cons _ ?_ | exact Sbp.refl | exact Sbp.nil | refine Sbp.cons (by repeat (first | exact Rem.head | apply Rem.tail)) ?_ | exact Sbp.app | refine Sbp.skip ?_)), ?_⟩
      refine RT.one (i := 4) (by kernel_rfl) rfl rfl ?_
      first | refine RS.storeB ty26 (by rfl) (by rfl) (by rfl) (by rfl) (by rfl) (by repeat (first | exact Upd.head | apply Upd.tail)) (by rfl) ?_ | refine RS.storeP ty26 (by rfl) (by rfl) (by rfl) (by rfl) (by rfl) (by repeat (first | exact Upd.head | apply Upd.tail)) (by rfl) ?_
      refine RS.nil ⟨(by repeat (first | exact List.Sublist.refl _ | exact List.nil_sublist _ | refine List.Sublist.cons_cons _ ?_ | refine List.Sublist.cons _ ?_ | exact Sbp.refl | exact Sbp.nil | refine Sbp.cons (by repeat (first | exact Rem.head | apply Rem.tail)) ?_ | exact Sbp.app | refine Sbp.skip ?_)), ?_⟩
      refine RT.one (i := 5) (by kernel_rfl) rfl rfl ?_
      first | refine RS.storeB ty26 (by rfl) (by rfl) (by rfl) (by rfl) (by rfl) (by repeat (first | exact Upd.head | apply Upd.tail)) (by rfl) ?_ | refine RS.storeP ty26 (by rfl) (by rfl) (by rfl) (by rfl) (by rfl) (by repeat (first | exact Upd.head | apply Upd.tail)) (by rfl) ?_
      refine RS.nil ⟨(by repeat (first | exact List.Sublist.refl _ | exact List.nil_sublist _ | refine List.Sublist.cons_cons _ ?_ | refine List.Sublist.cons _ ?_ | exact Sbp.refl | exact Sbp.nil | refine Sbp.cons (by repeat (first | exact Rem.head | apply Rem.tail)) ?_ | exact Sbp.app | refine Sbp.skip ?_)), ?_⟩
      refine RT.done (by kernel_rfl) ?_
      refine cutQ_n (by intro t ht; repeat (first | exact frame_puts ht (frame_mix ht) _ rfl | (refine frame_put rfl ht ?_) | (refine frame_puts ht ?_ _ rfl) | exact frame_mix ht | (refine frame_mix2 rfl ht ?_) | exact rfl)) ?_
      exact ⟨(⟨X, Y, a, b, gf, ys⟩, ⟨X0, Y0, a0, b0, gf2, ys2⟩), ⟨⟨hys, ha, hb, hX, hY, hab⟩, ⟨hys2, ha0, hb0_, hX0, hY0, hab0⟩⟩, (by repeat (first | exact kn_nil | refine kn_cons (by rfl) ?_)), (by repeat (first | exact List.Sublist.refl _ | exact List.nil_sublist _ | refine List.Sublist.cons_cons _ ?_ | refine List.Sublist.cons _ ?_ | exact Sbp.refl | exact Sbp.nil | refine Sbp.cons (by repeat (first | exact Rem.head | apply Rem.tail)) ?_ | exact Sbp.app | refine Sbp.skip ?_))⟩
  · intro z gj hz
    obtain ⟨⟨X, Y, a, b, gf, ys⟩, ⟨X0, Y0, a0, b0, gf2, ys2⟩⟩ := z
    obtain ⟨⟨hys, ha, hb, hX, hY, hab⟩, ⟨hys2, ha0, hb0_, hX0, hY0, hab0⟩⟩ := hz
    simp only at hys ha hb hX hY hab hys2 ha0 hb0_ hX0 hY0 hab0
    have hcast : ((a * b : Nat) : Int) = (a : Int) * (b : Int) := Int.natCast_mul ..
    have h41 : 4 * (a : Int) * (b : Int) = 4 * ((a : Int) * (b : Int)) := Int.mul_assoc ..
    have hpos := Nat.mul_le_mul ha.1 hb.1
    have hpos0 := Nat.mul_le_mul ha0.1 hb0_.1
    show CS _ _ _ _ _ (puts (mix _ _ _) []) ([⟨g6, 26, [iv X0, iv Y0, iv (a0 : Int), iv (b0 : Int), .slice (some ⟨gf2, 0, none⟩) ys2.length ys2.length]⟩, ⟨g5, 26, [iv X, iv Y, iv (a : Int), iv (b : Int), .slice (some ⟨gf, 0, none⟩) ys.length ys.length]⟩, ⟨gf2, 33, ys2.map flt⟩, ⟨gf, 33, ys.map flt⟩, ⟨g8, 64, [iv mx, iv my, iv mw, iv mh, .slice C n3 c3]⟩])
    refine CS.cut (X := Int × Int × Nat × Nat × Nat × Nat × List Nat) [23, 24, 25, 26, 27, 28] (fun z => []) (fun z => [⟨g6, 26, [iv z.1, iv z.2.1, iv (z.2.2.1 : Int), iv (z.2.2.2.1 : Int), .slice (some ⟨z.2.2.2.2.1, 0, none⟩) z.2.2.2.2.2.1 z.2.2.2.2.2.1]⟩, ⟨g5, 26, [iv X, iv Y, iv (a : Int), iv (b : Int), .slice (some ⟨gf, 0, none⟩) ys.length ys.length]⟩, ⟨z.2.2.2.2.1, 33, z.2.2.2.2.2.2.map flt⟩, ⟨gf, 33, ys.map flt⟩, ⟨g8, 64, [iv mx, iv my, iv mw, iv mh, .slice C n3 c3]⟩]) (fun z => z.2.2.2.2.2.2.length = z.2.2.2.2.2.1 ∧ z.2.2.2.2.2.1 = 4 * (z.2.2.1 * z.2.2.2.1) ∧ (1 ≤ z.2.2.1 ∧ z.2.2.1 ≤ 8) ∧ (1 ≤ z.2.2.2.1 ∧ z.2.2.2.1 ≤ 8) ∧ (-1000 ≤ z.1 ∧ z.1 ≤ 1000) ∧ (-1000 ≤ z.2.1 ∧ z.2.1 ≤ 1000)) ?_ ?_
    · refine CS.seq ?_
      refine CS.region ?_
      refine RS.q rfl (QO.move) ?_
      refine RS.q rfl (QO.not (by rfl)) ?_
      refine RS.nil ?_
      refine thenC_n ?_
      refine CS.cond (by rfl) (fun hb0 => ?_) (fun hb0 => ?_)
      · have hb0p := Eq.mp (Bool.not_eq_true' _) hb0
        refine CS.region ?_
        first | (refine RS.q rfl (QO.loadB ty26 (by rfl) (by repeat (first | exact List.Mem.head _ | refine List.Mem.tail _ ?_)) (by rfl)) ?_) | (refine RS.q rfl (QO.loadA ty26 (by rfl) (by repeat (first | exact List.Mem.head _ | refine List.Mem.tail _ ?_)) (by rfl) (by rfl)) ?_) | (refine RS.q rfl (QO.loadOA ty26 (by rfl) (by assumption) (by rfl)) ?_)
        refine RS.q rfl (QO.fieldAddr fo26_0 (by rfl)) ?_
        first | (refine RS.q rfl (QO.loadB ty23 (by rfl) (by repeat (first | exact List.Mem.head _ | refine List.Mem.tail _ ?_)) (by rfl)) ?_) | (refine RS.q rfl (QO.loadA ty23 (by rfl) (by repeat (first | exact List.Mem.head _ | refine List.Mem.tail _ ?_)) (by rfl) (by rfl)) ?_) | (refine RS.q rfl (QO.loadOA ty23 (by rfl) (by assumption) (by rfl)) ?_)
        refine RS.call rfl (by rfl) ok21 (by rfl) (fun w ho => like X0 Y0 a0 b0 X Y a b _ _ _ ys.length ys2 w rfl (FS.blk' ho (by repeat (first | exact List.Mem.head _ | refine List.Mem.tail _ ?_))) (by omega) (by omega) (by omega) (by omega) (by omega) (by omega)) ?_
        rintro _ _ ⟨gl, rfl, rfl⟩
        first | refine RS.storeB ty26 (by rfl) (by rfl) (by rfl) (by rfl) (by rfl) (by repeat (first | exact Upd.head | apply Upd.tail)) (by rfl) ?_ | refine RS.storeP ty26 (by rfl) (by rfl) (by rfl) (by rfl) (by rfl) (by repeat (first | exact Upd.head | apply Upd.tail)) (by rfl) ?_
        refine RS.nil ?_
        refine cutQ_n (by intro t ht; repeat (first | exact frame_puts ht (frame_mix ht) _ rfl | (refine frame_put rfl ht ?_) | (refine frame_puts ht ?_ _ rfl) | exact frame_mix ht | (refine frame_mix2 rfl ht ?_) | exact rfl)) ?_
        exact ⟨(X, Y, a, b, gl, ys.length, likeV ys2 ys.length), ⟨likeV_len _ _, hys, ha, hb, hX, hY⟩, (by repeat (first | exact kn_nil | refine kn_cons (by rfl) ?_)), (by repeat (first | exact List.Sublist.refl _ | exact List.nil_sublist _ | refine List.Sublist.cons_cons _ ?_ | refine List.Sublist.cons _ ?_ | exact Sbp.refl | exact Sbp.nil | refine Sbp.cons (by repeat (first | exact Rem.head | apply Rem.tail)) ?_ | exact Sbp.app | refine Sbp.skip ?_))⟩
      · have hb0p := Eq.mp (Bool.not_eq_false' _) hb0
        refine CS.skip ?_
        refine cutQ_n (by intro t ht; repeat (first | exact frame_puts ht (frame_mix ht) _ rfl | (refine frame_put rfl ht ?_) | (refine frame_puts ht ?_ _ rfl) | exact frame_mix ht | (refine frame_mix2 rfl ht ?_) | exact rfl)) ?_
        exact ⟨(X0, Y0, a0, b0, gf2, ys2.length, ys2), ⟨rfl, hys2, ha0, hb0_, hX0, hY0⟩, (by repeat (first | exact kn_nil | refine kn_cons (by rfl) ?_)), (by repeat (first | exact List.Sublist.refl _ | exact List.nil_sublist _ | refine List.Sublist.cons_cons _ ?_ | refine List.Sublist.cons _ ?_ | exact Sbp.refl | exact Sbp.nil | refine Sbp.cons (by repeat (first | exact Rem.head | apply Rem.tail)) ?_ | exact Sbp.app | refine Sbp.skip ?_))⟩
    · intro z gj hz
      obtain ⟨X2, Y2, a2, b2, gz, nz, zs⟩ := z
      obtain ⟨hzl, hnz, ha2, hb2, hX2, hY2⟩ := hz
      simp only at hzl hnz ha2 hb2 hX2 hY2
      show CS _ _ _ _ _ (puts (mix _ _ _) []) ([⟨g6, 26, [iv X2, iv Y2, iv (a2 : Int), iv (b2 : Int), .slice (some ⟨gz, 0, none⟩) nz nz]⟩, ⟨g5, 26, [iv X, iv Y, iv (a : Int), iv (b : Int), .slice (some ⟨gf, 0, none⟩) ys.length ys.length]⟩, ⟨gz, 33, zs.map flt⟩, ⟨gf, 33, ys.map flt⟩, ⟨g8, 64, [iv mx, iv my, iv mw, iv mh, .slice C n3 c3]⟩])
      refine CS.seq ?_
      refine CS.region ?_
      first | (refine RS.q rfl (QO.loadB ty26 (by rfl) (by repeat (first | exact List.Mem.head _ | refine List.Mem.tail _ ?_)) (by rfl)) ?_) | (refine RS.q rfl (QO.loadA ty26 (by rfl) (by repeat (first | exact List.Mem.head _ | refine List.Mem.tail _ ?_)) (by rfl) (by rfl)) ?_) | (refine RS.q rfl (QO.loadOA ty26 (by rfl) (by assumption) (by rfl)) ?_)
      first | (refine RS.q rfl (QO.loadB ty26 (by rfl) (by repeat (first | exact List.Mem.head _ | refine List.Mem.tail _ ?_)) (by rfl)) ?_) | (refine RS.q rfl (QO.loadA ty26 (by rfl) (by repeat (first | exact List.Mem.head _ | refine List.Mem.tail _ ?_)) (by rfl) (by rfl)) ?_) | (refine RS.q rfl (QO.loadOA ty26 (by rfl) (by assumption) (by rfl)) ?_)
      refine RS.q rfl (QO.move) ?_
      refine RS.call rfl (by rfl) ok51 (by rfl) (fun w ho => mix_ X Y a b X2 Y2 a2 b2 _ _ _ _ _ _ t ys zs w rfl hzl (FS.blk' ho (by repeat (first | exact List.Mem.head _ | refine List.Mem.tail _ ?_))) (FS.blk' ho (by repeat (first | exact List.Mem.head _ | refine List.Mem.tail _ ?_))) (frErr_small hys ha hb hX hY) (frErr_small hnz ha2 hb2 hX2 hY2)) ?_
      intro v33 H33 h33
      obtain ⟨u_3, v_3, w_3, h_3, A_3, n_3, c_3, rfl, hv3⟩ := h33.any
      refine RS.perm List.perm_append_comm ?_
      refine RS.q rfl (QO.move) ?_
      refine RS.q rfl (QO.extract (by rfl) (by rfl)) ?_
      refine RS.q rfl (QO.extract (by rfl) (by rfl)) ?_
      refine RS.alloc rfl ty26 ?_
      intro g11
      first | refine RS.storeB ty26 (by rfl) (by rfl) (by rfl) (by rfl) (by rfl) (by repeat (first | exact Upd.head | apply Upd.tail)) (by rfl) ?_ | refine RS.storeP ty26 (by rfl) (by rfl) (by rfl) (by rfl) (by rfl) (by repeat (first | exact Upd.head | apply Upd.tail)) (by rfl) ?_
      refine RS.q rfl (QO.assign) ?_
      refine RS.nil ?_
      refine thenC_n ?_
      refine CS.seq ?_
      refine CS.region ?_
      first | (refine RS.q rfl (QO.loadB ty26 (by rfl) (by repeat (first | exact List.Mem.head _ | refine List.Mem.tail _ ?_)) (by rfl)) ?_) | (refine RS.q rfl (QO.loadA ty26 (by rfl) (by repeat (first | exact List.Mem.head _ | refine List.Mem.tail _ ?_)) (by rfl) (by rfl)) ?_) | (refine RS.q rfl (QO.loadOA ty26 (by rfl) (by assumption) (by rfl)) ?_)
      first | (refine RS.q rfl (QO.loadB ty26 (by rfl) (by repeat (first | exact List.Mem.head _ | refine List.Mem.tail _ ?_)) (by rfl)) ?_) | (refine RS.q rfl (QO.loadA ty26 (by rfl) (by repeat (first | exact List.Mem.head _ | refine List.Mem.tail _ ?_)) (by rfl) (by rfl)) ?_) | (refine RS.q rfl (QO.loadOA ty26 (by rfl) (by assumption) (by rfl)) ?_)
      refine RS.q rfl (QO.move) ?_
      refine RS.call rfl (by rfl) ok52 (by rfl) (fun w ho => rmix X Y a b X2 Y2 a2 b2 _ _ _ _ _ _ t (a * b) ys zs w rfl hzl (FS.blk' ho (by repeat (first | exact List.Mem.head _ | refine List.Mem.tail _ ?_))) (FS.blk' ho (by repeat (first | exact List.Mem.head _ | refine List.Mem.tail _ ?_))) (frErr_small hys ha hb hX hY) (frErr_small hnz ha2 hb2 hX2 hY2) hys (Nat.le_refl _)) ?_
      intro v40 H40 h40
      obtain ⟨u_4, v_4, w_4, h_4, A_4, n_4, c_4, rfl, hv4⟩ := h40.any
      refine RS.perm List.perm_append_comm ?_
      refine RS.q rfl (QO.move) ?_
      refine RS.q rfl (QO.extract (by rfl) (by rfl)) ?_
      refine RS.q rfl (QO.extract (by rfl) (by rfl)) ?_
      refine RS.alloc rfl ty26 ?_
      intro g13
      first | refine RS.storeB ty26 (by rfl) (by rfl) (by rfl) (by rfl) (by rfl) (by repeat (first | exact Upd.head | apply Upd.tail)) (by rfl) ?_ | refine RS.storeP ty26 (by rfl) (by rfl) (by rfl) (by rfl) (by rfl) (by repeat (first | exact Upd.head | apply Upd.tail)) (by rfl) ?_
      refine RS.q rfl (QO.assign) ?_
      refine RS.nil ?_
      refine thenC_n ?_
      refine CS.cut (X := Unit) [10, 43, 44, 45, 46, 47, 48] (fun u => []) (fun u => [⟨g13, 26, [iv u_4, iv v_4, iv w_4, iv h_4, .slice A_4 n_4 c_4]⟩, ⟨g11, 26, [iv u_3, iv v_3, iv w_3, iv h_3, .slice A_3 n_3 c_3]⟩, ⟨g6, 26, [iv X2, iv Y2, iv (a2 : Int), iv (b2 : Int), .slice (some ⟨gz, 0, none⟩) nz nz]⟩, ⟨g5, 26, [iv X, iv Y, iv (a : Int), iv (b : Int), .slice (some ⟨gf, 0, none⟩) ys.length ys.length]⟩, ⟨gz, 33, zs.map flt⟩, ⟨gf, 33, ys.map flt⟩, ⟨g8, 64, [iv mx, iv my, iv mw, iv mh, .slice C n3 c3]⟩]) (fun u => True) ?_ ?_
      · refine CS.seq ?_
        refine CS.region ?_
        first | (refine RS.q rfl (QO.loadB ty26 (by rfl) (by repeat (first | exact List.Mem.head _ | refine List.Mem.tail _ ?_)) (by rfl)) ?_) | (refine RS.q rfl (QO.loadA ty26 (by rfl) (by repeat (first | exact List.Mem.head _ | refine List.Mem.tail _ ?_)) (by rfl) (by rfl)) ?_) | (refine RS.q rfl (QO.loadOA ty26 (by rfl) (by assumption) (by rfl)) ?_)
        refine RS.q rfl (QO.move) ?_
        first | (refine RS.q rfl (QO.loadB ty26 (by rfl) (by repeat (first | exact List.Mem.head _ | refine List.Mem.tail _ ?_)) (by rfl)) ?_) | (refine RS.q rfl (QO.loadA ty26 (by rfl) (by repeat (first | exact List.Mem.head _ | refine List.Mem.tail _ ?_)) (by rfl) (by rfl)) ?_) | (refine RS.q rfl (QO.loadOA ty26 (by rfl) (by assumption) (by rfl)) ?_)
        refine RS.q rfl (QO.move) ?_
        refine RS.call rfl (by rfl) ok53 (by rfl) (fun w ho => alike (plc [X, Y, (a : Int), (b : Int)] [X2, Y2, (a2 : Int), (b2 : Int)]) X Y a b (mixV ys zs t ys.length) _ _ _ _ _ _ _ _ _ _ _ _ _ _ w (hv3.fw ho (fun q hq => by simp [hq])) (hv4.fw ho (fun q hq => by simp [hq]))) ?_
        rintro _ _ ⟨rfl, rfl⟩
        refine RS.q rfl (QO.not (by rfl)) ?_
        refine RS.nil ?_
        refine thenC_n ?_
        refine CS.condF (by rfl) rfl ?_
        refine CS.skip ?_
        refine cutQ_n (by intro t ht; repeat (first | exact frame_puts ht (frame_mix ht) _ rfl | (refine frame_put rfl ht ?_) | (refine frame_puts ht ?_ _ rfl) | exact frame_mix ht | (refine frame_mix2 rfl ht ?_) | exact rfl)) ?_
        exact ⟨(), trivial, (by repeat (first | exact kn_nil | refine kn_cons (by rfl) ?_)), (by repeat (first | exact List.Sublist.refl _ | exact List.nil_sublist _ | refine List.Sublist.cons_cons _ ?_ | refine List.Sublist.cons _ ?_ | exact Sbp.refl | exact Sbp.nil | refine Sbp.cons (by repeat (first | exact Rem.head | apply Rem.tail)) ?_ | exact Sbp.app | refine Sbp.skip ?_))⟩
      · intro u gj hz
        refine CS.seq ?_
        refine CS.region ?_
        first | (refine RS.q rfl (QO.loadB ty26 (by rfl) (by repeat (first | exact List.Mem.head _ | refine List.Mem.tail _ ?_)) (by rfl)) ?_) | (refine RS.q rfl (QO.loadA ty26 (by rfl) (by repeat (first | exact List.Mem.head _ | refine List.Mem.tail _ ?_)) (by rfl) (by rfl)) ?_) | (refine RS.q rfl (QO.loadOA ty26 (by rfl) (by assumption) (by rfl)) ?_)
        first | (refine RS.q rfl (QO.loadB ty26 (by rfl) (by repeat (first | exact List.Mem.head _ | refine List.Mem.tail _ ?_)) (by rfl)) ?_) | (refine RS.q rfl (QO.loadA ty26 (by rfl) (by repeat (first | exact List.Mem.head _ | refine List.Mem.tail _ ?_)) (by rfl) (by rfl)) ?_) | (refine RS.q rfl (QO.loadOA ty26 (by rfl) (by assumption) (by rfl)) ?_)
        first | (refine RS.q rfl (QO.loadB ty64 (by rfl) (by repeat (first | exact List.Mem.head _ | refine List.Mem.tail _ ?_)) (by rfl)) ?_) | (refine RS.q rfl (QO.loadA ty64 (by rfl) (by repeat (first | exact List.Mem.head _ | refine List.Mem.tail _ ?_)) (by rfl) (by rfl)) ?_) | (refine RS.q rfl (QO.loadOA ty64 (by rfl) (by assumption) (by rfl)) ?_)
        refine RS.call rfl (by rfl) ok54 (by rfl) (fun w ho => through_ X Y a b X2 Y2 a2 b2 _ _ _ _ _ _ ys zs mx my mw mh C n3 c3 ms w rfl hzl (FS.blk' ho (by repeat (first | exact List.Mem.head _ | refine List.Mem.tail _ ?_))) (FS.blk' ho (by repeat (first | exact List.Mem.head _ | refine List.Mem.tail _ ?_))) (frErr_small hys ha hb hX hY) (frErr_small hnz ha2 hb2 hX2 hY2) hn3 (hC.own ho)) ?_
        intro v53 H53 h53
        obtain ⟨u_5, v_5, w_5, h_5, A_5, n_5, c_5, rfl, hv5⟩ := h53.any
        refine RS.perm List.perm_append_comm ?_
        refine RS.q rfl (QO.move) ?_
        refine RS.q rfl (QO.extract (by rfl) (by rfl)) ?_
        refine RS.q rfl (QO.extract (by rfl) (by rfl)) ?_
        first | refine RS.storeB ty26 (by rfl) (by rfl) (by rfl) (by rfl) (by rfl) (by repeat (first | exact Upd.head | apply Upd.tail)) (by rfl) ?_ | refine RS.storeP ty26 (by rfl) (by rfl) (by rfl) (by rfl) (by rfl) (by repeat (first | exact Upd.head | apply Upd.tail)) (by rfl) ?_
        refine RS.q rfl (QO.assign) ?_
        refine RS.nil ?_
        refine thenC_n ?_
        refine CS.seq ?_
        refine CS.seq ?_
        refine CS.region ?_
        first | (refine RS.q rfl (QO.loadB ty64 (by rfl) (by repeat (first | exact List.Mem.head _ | refine List.Mem.tail _ ?_)) (by rfl)) ?_) | (refine RS.q rfl (QO.loadA ty64 (by rfl) (by repeat (first | exact List.Mem.head _ | refine List.Mem.tail _ ?_)) (by rfl) (by rfl)) ?_) | (refine RS.q rfl (QO.loadOA ty64 (by rfl) (by assumption) (by rfl)) ?_)
        refine RS.call rfl (by rfl) ok48 (by rfl) (fun w ho => matteError _ _ _ _ _ _ _ _ hbx) ?_
        rintro _ _ ⟨rfl, rfl⟩
        refine RS.q rfl (QO.assign) ?_
        refine RS.nil ?_
        refine thenC_n ?_
        refine CS.seq ?_
        refine CS.region ?_
        refine RS.q rfl (QO.move) ?_
        refine RS.q rfl (QO.neq (by rfl) (by rfl)) ?_
        refine RS.nil ?_
        refine thenC_n ?_
        refine CS.cond (by rfl) (fun hb1 => ?_) (fun hb1 => ?_)
        · have hb1p := bne_iff_ne.1 hb1
          refine CS.seq ?_
          refine CS.region ?_
          have hne : mErr mx my mw mh n3 ≠ 0 := by assumption
          have hn5 : n_5 = 0 := by
            rcases hv5 with hh | hh
            · exact hh.2.2.2.2.2
            · exact absurd ((thE_of _ _ _ hne).symm.trans hh.1) hne
          refine RS.q rfl (QO.move) ?_
          refine RS.q rfl (QO.move) ?_
          refine RS.qv rfl (QO.eql (by rfl) (by rfl)) (congrArg Value.bool (show (thE (mErr mx my mw mh n3) [X, Y, (a : Int), (b : Int)] [X2, Y2, (a2 : Int), (b2 : Int)] [mx, my, mw, mh] == mErr mx my mw mh n3) = true from by rw [thE_of _ _ _ hne]; exact beq_self_eq_true _)) ?_
          refine RS.q rfl (QO.move) ?_
          refine RS.on (dj := 63) rfl (congrArg Value.bool rfl) ?_
          refine RS.q rfl (QO.fieldAddr fo26_1 (by rfl)) ?_
          refine RS.on (dj := 63) rfl (congrArg Value.bool rfl) ?_
          first | (refine RS.q rfl (QO.load ty24 (by rfl) (by repeat (first | exact List.Mem.head _ | refine List.Mem.tail _ ?_)) (by rfl)) ?_) | (refine RS.q rfl (QO.loadO ty24 (by rfl) (by assumption)) ?_) | (refine RS.q rfl (QO.load ty24 (by rfl) (by repeat (first | exact List.Mem.head _ | refine List.Mem.tail _ ?_)) (by assumption)) ?_)
          refine RS.on (dj := 63) rfl (congrArg Value.bool rfl) ?_
          refine RS.q rfl (QO.lenS Try.underlying24 (by rfl)) ?_
          refine RS.on (dj := 63) rfl (congrArg Value.bool rfl) ?_
          refine RS.qv rfl (QO.eql (by rfl) (by rfl)) (congrArg Value.bool (show ((n_5 : Int) == 0) = true from by rw [hn5]; rfl)) ?_
          refine RS.q rfl (QO.pickT (by rfl) rfl (by rfl)) ?_
          refine RS.q rfl (QO.assign) ?_
          refine RS.nil ?_
          refine thenC_n ?_
          refine CS.ret ?_
          refine thenC_r ?_
          refine retQ.mk (H' := []) (.inr rfl) (RVs.tmp (by rfl) RVs.nil) (List.nil_sublist _) ?_
          exact ⟨rfl, rfl⟩
        · have hb1p := of_bne_false hb1
          refine CS.skip ?_
          refine thenC_n ?_
          refine CS.seq ?_
          refine CS.region ?_
          have hme0 := of_bne_false ‹(mErr mx my mw mh n3 != 0) = false›
          first | (refine RS.q rfl (QO.loadB ty26 (by rfl) (by repeat (first | exact List.Mem.head _ | refine List.Mem.tail _ ?_)) (by rfl)) ?_) | (refine RS.q rfl (QO.loadA ty26 (by rfl) (by repeat (first | exact List.Mem.head _ | refine List.Mem.tail _ ?_)) (by rfl) (by rfl)) ?_) | (refine RS.q rfl (QO.loadOA ty26 (by rfl) (by assumption) (by rfl)) ?_)
          first | (refine RS.q rfl (QO.loadB ty26 (by rfl) (by repeat (first | exact List.Mem.head _ | refine List.Mem.tail _ ?_)) (by rfl)) ?_) | (refine RS.q rfl (QO.loadA ty26 (by rfl) (by repeat (first | exact List.Mem.head _ | refine List.Mem.tail _ ?_)) (by rfl) (by rfl)) ?_) | (refine RS.q rfl (QO.loadOA ty26 (by rfl) (by assumption) (by rfl)) ?_)
          first | (refine RS.q rfl (QO.loadB ty64 (by rfl) (by repeat (first | exact List.Mem.head _ | refine List.Mem.tail _ ?_)) (by rfl)) ?_) | (refine RS.q rfl (QO.loadA ty64 (by rfl) (by repeat (first | exact List.Mem.head _ | refine List.Mem.tail _ ?_)) (by rfl) (by rfl)) ?_) | (refine RS.q rfl (QO.loadOA ty64 (by rfl) (by assumption) (by rfl)) ?_)
          refine RS.call rfl (by rfl) ok55 (by rfl) (fun w ho => rthrough X Y a b X2 Y2 a2 b2 _ _ _ _ _ _ (a * b) ys zs mx my mw mh C n3 c3 ms w rfl hzl (FS.blk' ho (by repeat (first | exact List.Mem.head _ | refine List.Mem.tail _ ?_))) (FS.blk' ho (by repeat (first | exact List.Mem.head _ | refine List.Mem.tail _ ?_))) (frErr_small hys ha hb hX hY) (frErr_small hnz ha2 hb2 hX2 hY2) hn3 (hC.own ho) hys (Nat.le_refl _) hme0) ?_
          intro v73 H73 h73
          obtain ⟨u_6, v_6, w_6, h_6, A_6, n_6, c_6, rfl, hv6⟩ := h73.any
          refine RS.perm List.perm_append_comm ?_
          refine RS.q rfl (QO.move) ?_
          refine RS.q rfl (QO.extract (by rfl) (by rfl)) ?_
          refine RS.q rfl (QO.extract (by rfl) (by rfl)) ?_
          first | refine RS.storeB ty26 (by rfl) (by rfl) (by rfl) (by rfl) (by rfl) (by repeat (first | exact Upd.head | apply Upd.tail)) (by rfl) ?_ | refine RS.storeP ty26 (by rfl) (by rfl) (by rfl) (by rfl) (by rfl) (by repeat (first | exact Upd.head | apply Upd.tail)) (by rfl) ?_
          refine RS.q rfl (QO.assign) ?_
          refine RS.nil ?_
          refine thenC_n ?_
          refine CS.cut (X := Unit) [10, 76, 77, 78, 79, 80, 81] (fun u => []) (fun u => [⟨g13, 26, [iv u_6, iv v_6, iv w_6, iv h_6, .slice A_6 n_6 c_6]⟩, ⟨g11, 26, [iv u_5, iv v_5, iv w_5, iv h_5, .slice A_5 n_5 c_5]⟩, ⟨g6, 26, [iv X2, iv Y2, iv (a2 : Int), iv (b2 : Int), .slice (some ⟨gz, 0, none⟩) nz nz]⟩, ⟨g5, 26, [iv X, iv Y, iv (a : Int), iv (b : Int), .slice (some ⟨gf, 0, none⟩) ys.length ys.length]⟩, ⟨gz, 33, zs.map flt⟩, ⟨gf, 33, ys.map flt⟩, ⟨g8, 64, [iv mx, iv my, iv mw, iv mh, .slice C n3 c3]⟩]) (fun u => True) ?_ ?_
          · refine CS.seq ?_
            refine CS.region ?_
            first | (refine RS.q rfl (QO.loadB ty26 (by rfl) (by repeat (first | exact List.Mem.head _ | refine List.Mem.tail _ ?_)) (by rfl)) ?_) | (refine RS.q rfl (QO.loadA ty26 (by rfl) (by repeat (first | exact List.Mem.head _ | refine List.Mem.tail _ ?_)) (by rfl) (by rfl)) ?_) | (refine RS.q rfl (QO.loadOA ty26 (by rfl) (by assumption) (by rfl)) ?_)
            refine RS.q rfl (QO.move) ?_
            first | (refine RS.q rfl (QO.loadB ty26 (by rfl) (by repeat (first | exact List.Mem.head _ | refine List.Mem.tail _ ?_)) (by rfl)) ?_) | (refine RS.q rfl (QO.loadA ty26 (by rfl) (by repeat (first | exact List.Mem.head _ | refine List.Mem.tail _ ?_)) (by rfl) (by rfl)) ?_) | (refine RS.q rfl (QO.loadOA ty26 (by rfl) (by assumption) (by rfl)) ?_)
            refine RS.q rfl (QO.move) ?_
            refine RS.call rfl (by rfl) ok53 (by rfl) (fun w ho => alike (thE (mErr mx my mw mh n3) [X, Y, (a : Int), (b : Int)] [X2, Y2, (a2 : Int), (b2 : Int)] [mx, my, mw, mh]) X Y a b (thrV ys zs ms ys.length) _ _ _ _ _ _ _ _ _ _ _ _ _ _ w (hv5.fw ho (fun q hq => by simp [hq])) (hv6.fw ho (fun q hq => by simp [hq]))) ?_
            rintro _ _ ⟨rfl, rfl⟩
            refine RS.q rfl (QO.not (by rfl)) ?_
            refine RS.nil ?_
            refine thenC_n ?_
            refine CS.condF (by rfl) rfl ?_
            refine CS.skip ?_
            refine cutQ_n (by intro t ht; repeat (first | exact frame_puts ht (frame_mix ht) _ rfl | (refine frame_put rfl ht ?_) | (refine frame_puts ht ?_ _ rfl) | exact frame_mix ht | (refine frame_mix2 rfl ht ?_) | exact rfl)) ?_
            exact ⟨(), trivial, (by repeat (first | exact kn_nil | refine kn_cons (by rfl) ?_)), (by repeat (first | exact List.Sublist.refl _ | exact List.nil_sublist _ | refine List.Sublist.cons_cons _ ?_ | refine List.Sublist.cons _ ?_ | exact Sbp.refl | exact Sbp.nil | refine Sbp.cons (by repeat (first | exact Rem.head | apply Rem.tail)) ?_ | exact Sbp.app | refine Sbp.skip ?_))⟩
          · intro u gj hz
            refine CS.seq ?_
            refine CS.region ?_
            first | (refine RS.q rfl (QO.loadB ty64 (by rfl) (by repeat (first | exact List.Mem.head _ | refine List.Mem.tail _ ?_)) (by rfl)) ?_) | (refine RS.q rfl (QO.loadA ty64 (by rfl) (by repeat (first | exact List.Mem.head _ | refine List.Mem.tail _ ?_)) (by rfl) (by rfl)) ?_) | (refine RS.q rfl (QO.loadOA ty64 (by rfl) (by assumption) (by rfl)) ?_)
            refine RS.q rfl (QO.fieldAddr fo26_0 (by rfl)) ?_
            first | (refine RS.q rfl (QO.loadB ty23 (by rfl) (by repeat (first | exact List.Mem.head _ | refine List.Mem.tail _ ?_)) (by rfl)) ?_) | (refine RS.q rfl (QO.loadA ty23 (by rfl) (by repeat (first | exact List.Mem.head _ | refine List.Mem.tail _ ?_)) (by rfl) (by rfl)) ?_) | (refine RS.q rfl (QO.loadOA ty23 (by rfl) (by assumption) (by rfl)) ?_)
            refine RS.call rfl (by rfl) ok56 (by rfl) (fun w ho => matteOf mx my mw mh C n3 c3 ms X Y a b (a * b) w hn3 (hC.own ho) hlx3 hcast (by omega)) ?_
            rintro _ _ ⟨gk, rfl, rfl⟩
            refine RS.alloc rfl ty64 ?_
            intro g16
            first | refine RS.storeB ty64 (by rfl) (by rfl) (by rfl) (by rfl) (by rfl) (by repeat (first | exact Upd.head | apply Upd.tail)) (by rfl) ?_ | refine RS.storeP ty64 (by rfl) (by rfl) (by rfl) (by rfl) (by rfl) (by repeat (first | exact Upd.head | apply Upd.tail)) (by rfl) ?_
            refine RS.nil ?_
            refine thenC_n ?_
            refine CS.seq ?_
            refine CS.region ?_
            have hmek : mErr X Y (a : Int) (b : Int) (a * b) = 0 := (mErr_ok (regErr_small ha hb hX hY) hcast).symm
            first | (refine RS.q rfl (QO.loadB ty26 (by rfl) (by repeat (first | exact List.Mem.head _ | refine List.Mem.tail _ ?_)) (by rfl)) ?_) | (refine RS.q rfl (QO.loadA ty26 (by rfl) (by repeat (first | exact List.Mem.head _ | refine List.Mem.tail _ ?_)) (by rfl) (by rfl)) ?_) | (refine RS.q rfl (QO.loadOA ty26 (by rfl) (by assumption) (by rfl)) ?_)
            first | (refine RS.q rfl (QO.loadB ty26 (by rfl) (by repeat (first | exact List.Mem.head _ | refine List.Mem.tail _ ?_)) (by rfl)) ?_) | (refine RS.q rfl (QO.loadA ty26 (by rfl) (by repeat (first | exact List.Mem.head _ | refine List.Mem.tail _ ?_)) (by rfl) (by rfl)) ?_) | (refine RS.q rfl (QO.loadOA ty26 (by rfl) (by assumption) (by rfl)) ?_)
            first | (refine RS.q rfl (QO.loadB ty64 (by rfl) (by repeat (first | exact List.Mem.head _ | refine List.Mem.tail _ ?_)) (by rfl)) ?_) | (refine RS.q rfl (QO.loadA ty64 (by rfl) (by repeat (first | exact List.Mem.head _ | refine List.Mem.tail _ ?_)) (by rfl) (by rfl)) ?_) | (refine RS.q rfl (QO.loadOA ty64 (by rfl) (by assumption) (by rfl)) ?_)
            refine RS.call rfl (by rfl) ok54 (by rfl) (fun w ho => through_ X Y a b X2 Y2 a2 b2 _ _ _ _ _ _ ys zs X Y a b _ _ _ ((List.range (a * b)).map (mofF ms)) w rfl hzl (FS.blk' ho (by repeat (first | exact List.Mem.head _ | refine List.Mem.tail _ ?_))) (FS.blk' ho (by repeat (first | exact List.Mem.head _ | refine List.Mem.tail _ ?_))) (frErr_small hys ha hb hX hY) (frErr_small hnz ha2 hb2 hX2 hY2) (by simp) (FS.blk' ho (by repeat (first | exact List.Mem.head _ | refine List.Mem.tail _ ?_)))) ?_
            intro v90 H90 h90
            obtain ⟨u_7, v_7, w_7, h_7, A_7, n_7, c_7, rfl, hv7⟩ := h90.any
            refine RS.perm List.perm_append_comm ?_
            refine RS.q rfl (QO.move) ?_
            refine RS.q rfl (QO.extract (by rfl) (by rfl)) ?_
            refine RS.q rfl (QO.extract (by rfl) (by rfl)) ?_
            first | refine RS.storeB ty26 (by rfl) (by rfl) (by rfl) (by rfl) (by rfl) (by repeat (first | exact Upd.head | apply Upd.tail)) (by rfl) ?_ | refine RS.storeP ty26 (by rfl) (by rfl) (by rfl) (by rfl) (by rfl) (by repeat (first | exact Upd.head | apply Upd.tail)) (by rfl) ?_
            refine RS.q rfl (QO.assign) ?_
            refine RS.nil ?_
            refine thenC_n ?_
            refine CS.seq ?_
            refine CS.region ?_
            first | (refine RS.q rfl (QO.loadB ty26 (by rfl) (by repeat (first | exact List.Mem.head _ | refine List.Mem.tail _ ?_)) (by rfl)) ?_) | (refine RS.q rfl (QO.loadA ty26 (by rfl) (by repeat (first | exact List.Mem.head _ | refine List.Mem.tail _ ?_)) (by rfl) (by rfl)) ?_) | (refine RS.q rfl (QO.loadOA ty26 (by rfl) (by assumption) (by rfl)) ?_)
            first | (refine RS.q rfl (QO.loadB ty26 (by rfl) (by repeat (first | exact List.Mem.head _ | refine List.Mem.tail _ ?_)) (by rfl)) ?_) | (refine RS.q rfl (QO.loadA ty26 (by rfl) (by repeat (first | exact List.Mem.head _ | refine List.Mem.tail _ ?_)) (by rfl) (by rfl)) ?_) | (refine RS.q rfl (QO.loadOA ty26 (by rfl) (by assumption) (by rfl)) ?_)
            first | (refine RS.q rfl (QO.loadB ty64 (by rfl) (by repeat (first | exact List.Mem.head _ | refine List.Mem.tail _ ?_)) (by rfl)) ?_) | (refine RS.q rfl (QO.loadA ty64 (by rfl) (by repeat (first | exact List.Mem.head _ | refine List.Mem.tail _ ?_)) (by rfl) (by rfl)) ?_) | (refine RS.q rfl (QO.loadOA ty64 (by rfl) (by assumption) (by rfl)) ?_)
            refine RS.call rfl (by rfl) ok55 (by rfl) (fun w ho => rthrough X Y a b X2 Y2 a2 b2 _ _ _ _ _ _ (a * b) ys zs X Y a b _ _ _ ((List.range (a * b)).map (mofF ms)) w rfl hzl (FS.blk' ho (by repeat (first | exact List.Mem.head _ | refine List.Mem.tail _ ?_))) (FS.blk' ho (by repeat (first | exact List.Mem.head _ | refine List.Mem.tail _ ?_))) (frErr_small hys ha hb hX hY) (frErr_small hnz ha2 hb2 hX2 hY2) (by simp) (FS.blk' ho (by repeat (first | exact List.Mem.head _ | refine List.Mem.tail _ ?_))) hys (Nat.le_refl _) hmek) ?_
            intro v97 H97 h97
            obtain ⟨u_8, v_8, w_8, h_8, A_8, n_8, c_8, rfl, hv8⟩ := h97.any
            refine RS.perm List.perm_append_comm ?_
            refine RS.q rfl (QO.move) ?_
            refine RS.q rfl (QO.extract (by rfl) (by rfl)) ?_
            refine RS.q rfl (QO.extract (by rfl) (by rfl)) ?_
            first | refine RS.storeB ty26 (by rfl) (by rfl) (by rfl) (by rfl) (by rfl) (by repeat (first | exact Upd.head | apply Upd.tail)) (by rfl) ?_ | refine RS.storeP ty26 (by rfl) (by rfl) (by rfl) (by rfl) (by rfl) (by repeat (first | exact Upd.head | apply Upd.tail)) (by rfl) ?_
            refine RS.q rfl (QO.assign) ?_
            refine RS.nil ?_
            refine thenC_n ?_
            refine CS.seq ?_
            refine CS.region ?_
            first | (refine RS.q rfl (QO.loadB ty26 (by rfl) (by repeat (first | exact List.Mem.head _ | refine List.Mem.tail _ ?_)) (by rfl)) ?_) | (refine RS.q rfl (QO.loadA ty26 (by rfl) (by repeat (first | exact List.Mem.head _ | refine List.Mem.tail _ ?_)) (by rfl) (by rfl)) ?_) | (refine RS.q rfl (QO.loadOA ty26 (by rfl) (by assumption) (by rfl)) ?_)
            refine RS.q rfl (QO.move) ?_
            first | (refine RS.q rfl (QO.loadB ty26 (by rfl) (by repeat (first | exact List.Mem.head _ | refine List.Mem.tail _ ?_)) (by rfl)) ?_) | (refine RS.q rfl (QO.loadA ty26 (by rfl) (by repeat (first | exact List.Mem.head _ | refine List.Mem.tail _ ?_)) (by rfl) (by rfl)) ?_) | (refine RS.q rfl (QO.loadOA ty26 (by rfl) (by assumption) (by rfl)) ?_)
            refine RS.q rfl (QO.move) ?_
            refine RS.call rfl (by rfl) ok53 (by rfl) (fun w ho => alike (thE (mErr X Y (a : Int) (b : Int) (a * b)) [X, Y, (a : Int), (b : Int)] [X2, Y2, (a2 : Int), (b2 : Int)] [X, Y, (a : Int), (b : Int)]) X Y a b (thrV ys zs ((List.range (a * b)).map (mofF ms)) ys.length) _ _ _ _ _ _ _ _ _ _ _ _ _ _ w (hv7.fw ho (fun q hq => by simp [hq])) (hv8.fw ho (fun q hq => by simp [hq]))) ?_
            rintro _ _ ⟨rfl, rfl⟩
            refine RS.q rfl (QO.assign) ?_
            refine RS.nil ?_
            refine thenC_n ?_
            refine CS.ret ?_
            refine retQ.mk (H' := []) (.inr rfl) (RVs.tmp (by rfl) RVs.nil) (List.nil_sublist _) ?_
            exact ⟨rfl, rfl⟩

end Go.Proofs.Ytplfeaikjgfhcaa
