/-
  The law TopMovedWindow of the given rows: at every input the call returns true and leaves its arguments as they were. Conditions: none.
-/
import Derived.Test.YtapcgokcfmklbaaX5
import Derived.Test.YtapcgokcfmklbaaRows
import Derived.WalkKit
import Derived.ProofKit
import Derived.OpenShut
import Derived.ShutString
import Derived.ChangeOld
import Derived.Below
namespace Go.Proofs.Ytapcgokcfmklbaa
open Go Go.Proofs Go.RowKit

theorem ok28 : callOK Try.prog 28 = true := by kernel_rfl
theorem ok30 : callOK Try.prog 30 = true := by kernel_rfl
theorem ok31 : callOK Try.prog 31 = true := by kernel_rfl

set_option maxRecDepth 100000 in
theorem landedT (W : World) : Fn_ Try.prog 30 #[] W (fun v H => v = .bool true ∧ H = []) := by
  refine Fn_.intro Try.func30 rfl rfl (by rfl) ?_
  refine CS.seq ?_
  refine CS.region ?_
  refine RS.q rfl (QO.assign) ?_
  refine RS.nil ?_
  refine thenC_n ?_
  refine CS.seq ?_
  refine CS.region ?_
  refine RS.call rfl (by rfl) ok43 (by rfl) (fun w ho => bits _ _) ?_
  rintro _ _ ⟨rfl, rfl⟩
  refine RS.q rfl (QO.eql (by rfl) (by rfl)) ?_
  refine RS.q rfl (QO.assign) ?_
  refine RS.nil ?_
  refine thenC_n ?_
  refine CS.ret ?_
  refine retQ.mk (H' := []) (.inr rfl) (RVs.tmp (by rfl) RVs.nil) (List.nil_sublist _) ?_
  exact ⟨congrArg Value.bool (by decide), rfl⟩

theorem wmBad (u : Win) (A : Option Addr) (c : Nat) (X Y : Int) (a b : Nat) (W : World) (hA : PS W A u.pts) (hm : u.pts.length ≤ maxLen) (h : ¬ (winE u = 0 ∧ regErr X Y (a : Int) (b : Int) = 0)) : Fn_ Try.prog 31 #[.agg #[iv u.kind, flt u.x, flt u.y, flt u.w, flt u.h, flt u.soft, .slice A u.pts.length c, .bool u.out], .agg #[iv X, iv Y, iv (a : Int), iv (b : Int)]] W (fun v H => ∃ e : Int, e ≠ 0 ∧ v = .tuple #[.agg #[iv 0, iv 0, iv 0, iv 0, .slice none 0 0], iv e] ∧ H = []) := by
  by_cases he : winE u = 0
  · have hr : regErr X Y (a : Int) (b : Int) ≠ 0 := fun h1 => h ⟨he, h1⟩
    exact (wmBad2 u A c X Y a b W hA hm he hr).mono fun v H h => ⟨_, hr, h⟩
  · exact (wmBad1 u A c X Y a b W hA hm he).mono fun v H h => ⟨_, he, h⟩
theorem movedM (r u : Win) (A : Option Addr) (c : Nat) (dx dy e : Int) (W : World) (hA : PS W A u.pts) (hm : u.pts.length ≤ maxLen) (hr : movR u dx dy = r) (he : movE u dx dy = e) : Fn_ Try.prog 28 #[.agg #[iv u.kind, flt u.x, flt u.y, flt u.w, flt u.h, flt u.soft, .slice A u.pts.length c, .bool u.out], iv dx, iv dy] W (fun v H => ∃ A2 c2, v = .tuple #[.agg #[iv r.kind, flt r.x, flt r.y, flt r.w, flt r.h, flt r.soft, .slice A2 r.pts.length c2, .bool r.out], iv e] ∧ OwnP A2 r.pts H) := by
  subst hr he; exact moved_ u A c dx dy W hA hm
theorem wmMoved (r : Win) (A : Option Addr) (c : Nat) (u : Win) (X Y dx dy : Int) (a b : Nat) (m n : Int) (W : World) (hA : PS W A r.pts) (hm : r.pts.length ≤ maxLen) (hmr : movW u dx dy = r) (he0 : winE u = 0) (he : winE r = 0) (hr : regErr (X + dx) (Y + dy) (a : Int) (b : Int) = 0) (ha : 1 ≤ a ∧ a ≤ 16) (hb : 1 ≤ b ∧ b ≤ 16) (hwx : whl u.x m) (hwy : whl u.y n) (hdx : dx.natAbs ≤ 2000000) (hdy : dy.natAbs ≤ 2000000) :
    Fn_ Try.prog 31 #[.agg #[iv r.kind, flt r.x, flt r.y, flt r.w, flt r.h, flt r.soft, .slice A r.pts.length c, .bool r.out], .agg #[iv (X + dx), iv (Y + dy), iv (a : Int), iv (b : Int)]] W (fun v H => ∃ g, v = .tuple #[.agg #[iv (X + dx), iv (Y + dy), iv (a : Int), iv (b : Int), .slice (some ⟨g, 0, none⟩) (a * b) (a * b)], iv 0] ∧ H = [⟨g, 29, ((List.range (a * b)).map (covF u X Y a m n)).map flt⟩]) := by
  have hxy := winE_xy he0
  have hmb := whl_bd hwx hxy.1 hxy.2.1
  have hnb := whl_bd hwy hxy.2.2.1 hxy.2.2.2
  have h1 := whl_movx (dy := dy) hwx (by omega) hdx
  have h2 := whl_movy (dx := dx) hwy (by omega) hdy
  rw [hmr] at h1 h2
  have h := wmOk r A c (X + dx) (Y + dy) a b W hA hm (mvC u m dx) (mvC u n dy) he hr ha hb h1 h2
  have e : covF r (X + dx) (Y + dy) a (mvC u m dx) (mvC u n dy) = covF u X Y a m n := by
    funext i; rw [← hmr]; exact covF_mov (winE_ok he0).1
  rw [e] at h
  exact h

set_option maxHeartbeats 4000000 in
set_option maxRecDepth 100000 in
theorem topMovedWindow (u : Win) (A : Option Addr) (c : Nat) (rx ry rw_ rh dx dy : Int) (W : World) (hA : PS W A u.pts) (hm : u.pts.length ≤ maxLen) : Fn_ Try.prog 6 #[.agg #[iv u.kind, flt u.x, flt u.y, flt u.w, flt u.h, flt u.soft, .slice A u.pts.length c, .bool u.out], .agg #[iv rx, iv ry, iv rw_, iv rh], iv dx, iv dy] W (fun v H => v = .bool true ∧ H = []) := by
  have ha1 := and64_bd (i := rw_) (j := 15) (by decide) (by decide)
  have hb1 := and64_bd (i := rh) (j := 15) (by decide) (by decide)
  obtain ⟨a, ha⟩ : ∃ a : Nat, 1 + and64 rw_ 15 = (a : Int) := ⟨(1 + and64 rw_ 15).toNat, by omega⟩
  obtain ⟨b, hb⟩ : ∃ b : Nat, 1 + and64 rh 15 = (b : Int) := ⟨(1 + and64 rh 15).toNat, by omega⟩
  have hab : 1 ≤ a ∧ a ≤ 16 := by omega
  have hbb : 1 ≤ b ∧ b ≤ 16 := by omega
  obtain ⟨ex, hex⟩ : ∃ q, dx.tmod 1000 = q := ⟨_, rfl⟩
  obtain ⟨ey, hey⟩ : ∃ q, dy.tmod 1000 = q := ⟨_, rfl⟩
  have hexb := tmod_bd1 hex
  have heyb := tmod_bd1 hey
  obtain ⟨mw, hmw⟩ : ∃ q, movR u ex ey = q := ⟨_, rfl⟩
  have hup := Nat.mul_le_mul hab.2 hbb.2
  refine Fn_.intro Try.func6 rfl rfl (by rfl) ?_
  refine CS.seq ?_
  refine CS.region ?_
  refine RS.box rfl (by rfl) (by rfl) ?_
  intro g4
  refine RS.box rfl (by rfl) (by rfl) ?_
  intro g5
  refine RS.q rfl (QO.assign) ?_
  refine RS.nil ?_
  refine thenC_n ?_
  refine CS.seq ?_
  refine CS.seq ?_
  refine CS.region ?_
  refine RS.call rfl (by rfl) ok30 (by rfl) (fun w ho => landedT _) ?_
  rintro _ _ ⟨rfl, rfl⟩
  refine RS.qv rfl (QO.not (by rfl)) (congrArg Value.bool (show (!true) = false from rfl)) ?_
  refine RS.nil ?_
  refine thenC_n ?_
  refine CS.condF (by rfl) rfl ?_
  refine CS.skip ?_
  refine thenC_n ?_
  refine CS.seq ?_
  refine CS.region ?_
  refine RS.q rfl (QO.fieldAddr fo23_2 (by rfl)) ?_
  first | (refine RS.q rfl (QO.load ty3 (by rfl) (by repeat (first | exact List.Mem.head _ | refine List.Mem.tail _ ?_)) (by rfl)) ?_) | (refine RS.q rfl (QO.loadO ty3 (by rfl) (by assumption)) ?_) | (refine RS.q rfl (QO.load ty3 (by rfl) (by repeat (first | exact List.Mem.head _ | refine List.Mem.tail _ ?_)) (by assumption)) ?_)
  refine RS.q rfl (QO.and64 (by rfl) (by rfl)) ?_
  first | (refine RS.qv rfl (QO.add (by rfl) (by rfl) (by omega) (by omega)) (congrArg iv ha) ?_) | (refine RS.qv rfl (QO.ibin (by rfl) (by rfl) trivial) (congrArg iv ha) ?_)
  refine RS.q rfl (QO.fieldAddr fo23_3 (by rfl)) ?_
  first | (refine RS.q rfl (QO.load ty3 (by rfl) (by repeat (first | exact List.Mem.head _ | refine List.Mem.tail _ ?_)) (by rfl)) ?_) | (refine RS.q rfl (QO.loadO ty3 (by rfl) (by assumption)) ?_) | (refine RS.q rfl (QO.load ty3 (by rfl) (by repeat (first | exact List.Mem.head _ | refine List.Mem.tail _ ?_)) (by assumption)) ?_)
  refine RS.q rfl (QO.and64 (by rfl) (by rfl)) ?_
  first | (refine RS.qv rfl (QO.add (by rfl) (by rfl) (by omega) (by omega)) (congrArg iv hb) ?_) | (refine RS.qv rfl (QO.ibin (by rfl) (by rfl) trivial) (congrArg iv hb) ?_)
  refine RS.q rfl (QO.fieldAddr fo23_2 (by rfl)) ?_
  refine RS.store1 ty3 rfl (by rfl) (by rfl) (by rfl) (by repeat (first | exact Upd.head | apply Upd.tail)) (by first | (simp; done) | (simp; omega) | omega) ?_
  refine RS.q rfl (QO.fieldAddr fo23_3 (by rfl)) ?_
  refine RS.store1 ty3 rfl (by rfl) (by rfl) (by rfl) (by repeat (first | exact Upd.head | apply Upd.tail)) (by first | (simp; done) | (simp; omega) | omega) ?_
  refine RS.nil ?_
  refine thenC_n ?_
  refine CS.seq ?_
  refine CS.region ?_
  refine RS.q rfl (QO.move) ?_
  refine RS.qv rfl (QO.rem (by rfl) (by rfl) (by omega)) (congrArg iv hex) ?_
  refine RS.q rfl (QO.move) ?_
  refine RS.qv rfl (QO.rem (by rfl) (by rfl) (by omega)) (congrArg iv hey) ?_
  refine RS.q rfl (QO.assign) ?_
  refine RS.q rfl (QO.assign) ?_
  refine RS.nil ?_
  refine thenC_n ?_
  refine CS.cut (X := Int × Int) (8 :: 10 :: 34 :: 35 :: 36 :: 37 :: 38 :: 39 :: 40 :: 41 :: 42 :: 43 :: 44 :: 45 :: 46 :: 47 :: 48 :: 49 :: 50 :: 51 :: 52 :: 53 :: 54 :: 55 :: 56 :: 57 :: 58 :: []) (fun z => []) (fun z => [⟨g5, 23, [iv rx, iv ry, iv (a : Int), iv (b : Int)]⟩, ⟨g4, 61, [iv u.kind, flt u.x, flt u.y, flt u.w, flt u.h, flt u.soft, .slice A u.pts.length c, .bool u.out]⟩]) (fun z => whl u.x z.1 ∧ whl u.y z.2) ?_ ?_
  · refine CS.seq ?_
    refine CS.region ?_
    refine RS.q rfl (QO.fieldAddr fo61_1 (by rfl)) ?_
    first | (refine RS.q rfl (QO.load ty29 (by rfl) (by repeat (first | exact List.Mem.head _ | refine List.Mem.tail _ ?_)) (by rfl)) ?_) | (refine RS.q rfl (QO.loadO ty29 (by rfl) (by assumption)) ?_) | (refine RS.q rfl (QO.load ty29 (by rfl) (by repeat (first | exact List.Mem.head _ | refine List.Mem.tail _ ?_)) (by assumption)) ?_)
    refine RS.q rfl (QO.fieldAddr fo61_2 (by rfl)) ?_
    first | (refine RS.q rfl (QO.load ty29 (by rfl) (by repeat (first | exact List.Mem.head _ | refine List.Mem.tail _ ?_)) (by rfl)) ?_) | (refine RS.q rfl (QO.loadO ty29 (by rfl) (by assumption)) ?_) | (refine RS.q rfl (QO.load ty29 (by rfl) (by repeat (first | exact List.Mem.head _ | refine List.Mem.tail _ ?_)) (by assumption)) ?_)
    refine RS.buildSlice rfl Try.underlying24 ty29 (by decide) (by decide) (by rfl) (by rfl) ?_
    intro g38
    refine RS.q rfl (QO.lenS Try.underlying24 (by rfl)) ?_
    refine RS.q rfl (QO.move) ?_
    refine RS.nil ?_
    refine thenC_n ?_
    refine CS.block ?_
    refine CS.loop (X := Nat) (8 :: 10 :: 40 :: 41 :: 42 :: 43 :: 44 :: 45 :: 46 :: 47 :: 48 :: 49 :: 50 :: 51 :: 52 :: 53 :: 54 :: 55 :: 56 :: 57 :: 58 :: []) (fun k => [(40, iv (k : Int))]) (fun k => [⟨g38, 29, [flt u.x, flt u.y]⟩, ⟨g5, 23, [iv rx, iv ry, iv (a : Int), iv (b : Int)]⟩, ⟨g4, 61, [iv u.kind, flt u.x, flt u.y, flt u.w, flt u.h, flt u.soft, .slice A u.pts.length c, .bool u.out]⟩]) (fun k => k ≤ 2 ∧ ∀ j, j < k → ∃ n, whl (f2 u.x u.y j) n) (fun k => 2 - k) 0 ⟨Nat.zero_le _, fun j h => absurd h (Nat.not_lt_zero _)⟩ ?_ ?_ ?_
    · exact (by repeat (first | exact kn_nil | refine kn_cons (by rfl) ?_))
    · exact (by repeat (first | exact List.Sublist.refl _ | exact List.nil_sublist _ | refine List.Sublist.cons_cons _ ?_ | refine List.Sublist.cons _ ?_ | exact Sbp.refl | exact Sbp.nil | refine Sbp.cons (by repeat (first | exact Rem.head | apply Rem.tail)) ?_ | exact Sbp.app | refine Sbp.skip ?_ | exact List.sublist_append_left _ _ | exact List.sublist_append_right _ _))
    · intro k gj6 hz
      obtain ⟨hk, hall⟩ := hz
      refine CS.seq ?_
      refine CS.region ?_
      refine RS.q rfl (QO.lss (by rfl) (by rfl)) ?_
      refine RS.nil ?_
      refine thenC_n ?_
      refine CS.seq ?_
      refine CS.cond (by rfl) (fun hb0 => ?_) (fun hb0 => ?_)
      · have hb0p := of_decide_eq_true hb0
        refine CS.skip ?_
        refine thenC_n ?_
        refine CS.seq ?_
        refine CS.block ?_
        refine CS.seq ?_
        refine CS.region ?_
        first | (refine RS.q rfl (QO.idx0 Try.underlying24 ty29 (by rfl) (by rfl) (by rfl) (by omega)) ?_) | (refine RS.q rfl (QO.idxn Try.underlying24 ty29 (by rfl) (by rfl) (by rfl) (by omega)) ?_) | (refine RS.q rfl (QO.idx1 Try.underlying24 ty29 (by rfl) (by rfl) (by omega) (by omega)) ?_)
        refine RS.q rfl (QO.load ty29 (by rfl) (by repeat (first | exact List.Mem.head _ | refine List.Mem.tail _ ?_)) (w2 (by omega))) ?_
        refine RS.q rfl (QO.assign) ?_
        refine RS.nil ?_
        refine thenC_n ?_
        refine CS.seq ?_
        refine CS.region ?_
        refine RS.q rfl (QO.move) ?_
        refine RS.q rfl (QO.fcmp32 (by rfl) (by rfl) (by simp)) ?_
        refine RS.q rfl (QO.move) ?_
        refine RS.split (dj := 46) (by rfl) (fun hb1 => ?_) (fun hb1 => ?_)
        · refine RS.on (dj := 46) rfl (congrArg Value.bool hb1) ?_
          refine RS.q rfl (QO.move) ?_
          refine RS.on (dj := 46) rfl (congrArg Value.bool hb1) ?_
          refine RS.q rfl (QO.fcmp32 (by rfl) (by rfl) (by simp)) ?_
          refine RS.q rfl (QO.pickT (by rfl) hb1 (by rfl)) ?_
          refine RS.q rfl (QO.not (by rfl)) ?_
          refine RS.q rfl (QO.move) ?_
          refine RS.split (dj := 51) (by rfl) (fun hb2 => ?_) (fun hb2 => ?_)
          · have hb2p := Eq.mp (Bool.not_eq_true' _) hb2
            refine RS.off (dj := 51) rfl (.inl (congrArg Value.bool hb2)) (fun _ => rfl) rfl ?_
            refine RS.off (dj := 51) rfl (.inl (congrArg Value.bool hb2)) (fun _ => rfl) rfl ?_
            refine RS.off (dj := 51) rfl (.inl (congrArg Value.bool hb2)) (fun _ => rfl) rfl ?_
            refine RS.off (dj := 51) rfl (.inl (congrArg Value.bool hb2)) (fun _ => rfl) rfl ?_
            refine RS.off (dj := 51) rfl (.inl (congrArg Value.bool hb2)) (fun _ => rfl) rfl ?_
            refine RS.q rfl (QO.pickT (by rfl) hb2 (by rfl)) ?_
            refine RS.nil ?_
            refine thenC_n ?_
            refine CS.condT (by rfl) rfl ?_
            refine CS.seq ?_
            refine CS.region ?_
            refine RS.q rfl (QO.assign) ?_
            refine RS.nil ?_
            refine thenC_n ?_
            refine CS.ret ?_
            refine blockC_r ?_
            refine thenC_r ?_
            refine loopQ_r ?_
            refine blockC_r ?_
            refine cutQ_r ?_
            refine retQ.mk (H' := []) (.inr rfl) (RVs.tmp (by rfl) RVs.nil) (List.nil_sublist _) ?_
            exact ⟨rfl, rfl⟩
          · have hb2p := Eq.mp (Bool.not_eq_false' _) hb2
            refine RS.on (dj := 51) rfl (congrArg Value.bool hb2) ?_
            refine RS.q rfl (QO.move) ?_
            refine RS.on (dj := 51) rfl (congrArg Value.bool hb2) ?_
            refine RS.q rfl (QO.move) ?_
            refine RS.on (dj := 51) rfl (congrArg Value.bool hb2) ?_
            have hmid := mid_fb (v := f2 u.x u.y k) (by assumption) (by assumption)
            have hxi := int_there hmid.2
            obtain ⟨n, hi, hn⟩ := hxi
            refine RS.q rfl (QO.conv_f32_i64n (by rw [Try.underlying29]; rfl) Try.underlying3 (by rfl) hi) ?_
            refine RS.on (dj := 51) rfl (congrArg Value.bool hb2) ?_
            refine RS.q rfl (QO.conv_i64_f32 Try.underlying3 Try.underlying29 (by rfl)) ?_
            refine RS.on (dj := 51) rfl (congrArg Value.bool hb2) ?_
            refine RS.q rfl (QO.fcmp32 (by rfl) (by rfl) (by simp)) ?_
            refine RS.q rfl (QO.pickF (by rfl) hb2 (by rfl)) ?_
            refine RS.nil ?_
            refine thenC_n ?_
            refine CS.cond (by rfl) (fun hb3 => ?_) (fun hb3 => ?_)
            · refine CS.seq ?_
              refine CS.region ?_
              refine RS.q rfl (QO.assign) ?_
              refine RS.nil ?_
              refine thenC_n ?_
              refine CS.ret ?_
              refine blockC_r ?_
              refine thenC_r ?_
              refine loopQ_r ?_
              refine blockC_r ?_
              refine cutQ_r ?_
              refine retQ.mk (H' := []) (.inr rfl) (RVs.tmp (by rfl) RVs.nil) (List.nil_sublist _) ?_
              exact ⟨rfl, rfl⟩
            · refine CS.skip ?_
              refine blockC_n ?_
              refine thenC_n ?_
              refine CS.region ?_
              first | (refine RS.q rfl (QO.add (by rfl) (by rfl) (by omega) (by omega)) ?_) | (refine RS.q rfl (QO.ibin (by rfl) (by rfl) trivial) ?_)
              refine RS.q rfl (QO.move) ?_
              refine RS.nil ?_
              refine loopQ_n (by intro t ht; repeat (first | with_reducible exact rfl | exact frame_puts ht (frame_mix ht) _ rfl | (refine frame_put rfl ht ?_) | (refine frame_puts ht ?_ _ rfl) | exact frame_mix ht | (refine frame_mix2 rfl ht ?_) | exact rfl)) ?_
              exact ⟨k + 1, ⟨by omega, fun j hj => by
                  by_cases e : j = k
                  · subst e; exact ⟨n, whl_of_eq hmid.1 hn (by assumption)⟩
                  · exact hall j (by omega)⟩, by omega, (by repeat (first | exact kn_nil | refine kn_cons (by rfl) ?_)), (by repeat (first | exact List.Sublist.refl _ | exact List.nil_sublist _ | refine List.Sublist.cons_cons _ ?_ | refine List.Sublist.cons _ ?_ | exact Sbp.refl | exact Sbp.nil | refine Sbp.cons (by repeat (first | exact Rem.head | apply Rem.tail)) ?_ | exact Sbp.app | refine Sbp.skip ?_ | exact List.sublist_append_left _ _ | exact List.sublist_append_right _ _))⟩
        · refine RS.off (dj := 46) rfl (.inl (congrArg Value.bool hb1)) (fun _ => rfl) rfl ?_
          refine RS.off (dj := 46) rfl (.inl (congrArg Value.bool hb1)) (fun _ => rfl) rfl ?_
          refine RS.q rfl (QO.pickF (by rfl) hb1 (by rfl)) ?_
          refine RS.q rfl (QO.not (by rfl)) ?_
          refine RS.q rfl (QO.move) ?_
          refine RS.off (dj := 51) rfl (.inl (congrArg Value.bool rfl)) (fun _ => rfl) rfl ?_
          refine RS.off (dj := 51) rfl (.inl (congrArg Value.bool rfl)) (fun _ => rfl) rfl ?_
          refine RS.off (dj := 51) rfl (.inl (congrArg Value.bool rfl)) (fun _ => rfl) rfl ?_
          refine RS.off (dj := 51) rfl (.inl (congrArg Value.bool rfl)) (fun _ => rfl) rfl ?_
          refine RS.off (dj := 51) rfl (.inl (congrArg Value.bool rfl)) (fun _ => rfl) rfl ?_
          refine RS.q rfl (QO.pickT (by rfl) rfl (by rfl)) ?_
          refine RS.nil ?_
          refine thenC_n ?_
          refine CS.condT (by rfl) rfl ?_
          refine CS.seq ?_
          refine CS.region ?_
          refine RS.q rfl (QO.assign) ?_
          refine RS.nil ?_
          refine thenC_n ?_
          refine CS.ret ?_
          refine blockC_r ?_
          refine thenC_r ?_
          refine loopQ_r ?_
          refine blockC_r ?_
          refine cutQ_r ?_
          refine retQ.mk (H' := []) (.inr rfl) (RVs.tmp (by rfl) RVs.nil) (List.nil_sublist _) ?_
          exact ⟨rfl, rfl⟩
      · have hb0p := of_decide_eq_false hb0
        refine CS.exit ?_
        refine thenC_x ?_
        refine loopQ_x ?_
        refine blockC_x ?_
        refine cutQ_n (by intro t ht; repeat (first | with_reducible exact rfl | exact frame_puts ht (frame_mix ht) _ rfl | (refine frame_put rfl ht ?_) | (refine frame_puts ht ?_ _ rfl) | exact frame_mix ht | (refine frame_mix2 rfl ht ?_) | exact rfl)) ?_
        have h0 := hall 0 (by omega)
        have h1 := hall 1 (by omega)
        obtain ⟨m, hm0⟩ := h0
        obtain ⟨n, hn0⟩ := h1
        exact ⟨(m, n), ⟨hm0, hn0⟩, (by repeat (first | exact kn_nil | refine kn_cons (by rfl) ?_)), (by repeat (first | exact List.Sublist.refl _ | exact List.nil_sublist _ | refine List.Sublist.cons_cons _ ?_ | refine List.Sublist.cons _ ?_ | exact Sbp.refl | exact Sbp.nil | refine Sbp.cons (by repeat (first | exact Rem.head | apply Rem.tail)) ?_ | exact Sbp.app | refine Sbp.skip ?_ | exact List.sublist_append_left _ _ | exact List.sublist_append_right _ _))⟩
  · intro z gj hz
    obtain ⟨m, n⟩ := z
    obtain ⟨hwx, hwy⟩ := hz
    simp only at hwx hwy
    refine CS.seq ?_
    by_cases hsp11 : winE u = 0 ∧ regErr rx ry (a : Int) (b : Int) = 0
    · refine CS.region ?_
      first | (refine RS.q rfl (QO.loadB ty61 (by rfl) (by repeat (first | exact List.Mem.head _ | refine List.Mem.tail _ ?_)) (by rfl)) ?_) | (refine RS.q rfl (QO.loadA ty61 (by rfl) (by repeat (first | exact List.Mem.head _ | refine List.Mem.tail _ ?_)) (by rfl) (by rfl)) ?_) | (refine RS.q rfl (QO.loadOA ty61 (by rfl) (by assumption) (by rfl)) ?_)
      first | (refine RS.q rfl (QO.loadB ty23 (by rfl) (by repeat (first | exact List.Mem.head _ | refine List.Mem.tail _ ?_)) (by rfl)) ?_) | (refine RS.q rfl (QO.loadA ty23 (by rfl) (by repeat (first | exact List.Mem.head _ | refine List.Mem.tail _ ?_)) (by rfl) (by rfl)) ?_) | (refine RS.q rfl (QO.loadOA ty23 (by rfl) (by assumption) (by rfl)) ?_)
      refine RS.call rfl (by rfl) ok31 (by rfl) (fun w ho => wmOk u A c rx ry a b _ (hA.own ho) hm m n hsp11.1 hsp11.2 hab hbb hwx hwy) ?_
      rintro _ _ ⟨gm, rfl, rfl⟩
      refine RS.q rfl (QO.move) ?_
      refine RS.q rfl (QO.extract (by rfl) (by rfl)) ?_
      refine RS.q rfl (QO.extract (by rfl) (by rfl)) ?_
      refine RS.alloc rfl ty70 ?_
      intro g11
      first | refine RS.storeB ty70 (by rfl) (by rfl) (by rfl) (by rfl) (by rfl) (by repeat (first | exact Upd.head | apply Upd.tail)) (by rfl) ?_ | refine RS.storeP ty70 (by rfl) (by rfl) (by rfl) (by rfl) (by rfl) (by repeat (first | exact Upd.head | apply Upd.tail)) (by rfl) ?_
      refine RS.q rfl (QO.assign) ?_
      refine RS.nil ?_
      refine thenC_n ?_
      refine CS.seq ?_
      refine CS.seq ?_
      refine CS.region ?_
      refine RS.q rfl (QO.move) ?_
      refine RS.qv rfl (QO.neq (by rfl) (by rfl)) (congrArg Value.bool (show ((0 : Int) != 0) = false from rfl)) ?_
      refine RS.nil ?_
      refine thenC_n ?_
      refine CS.condF (by rfl) rfl ?_
      refine CS.skip ?_
      refine thenC_n ?_
      refine CS.seq ?_
      by_cases hsp14 : movE u ex ey = 0
      · refine CS.region ?_
        first | (refine RS.q rfl (QO.loadB ty61 (by rfl) (by repeat (first | exact List.Mem.head _ | refine List.Mem.tail _ ?_)) (by rfl)) ?_) | (refine RS.q rfl (QO.loadA ty61 (by rfl) (by repeat (first | exact List.Mem.head _ | refine List.Mem.tail _ ?_)) (by rfl) (by rfl)) ?_) | (refine RS.q rfl (QO.loadOA ty61 (by rfl) (by assumption) (by rfl)) ?_)
        refine RS.q rfl (QO.move) ?_
        refine RS.q rfl (QO.move) ?_
        refine RS.call rfl (by rfl) ok28 (by rfl) (fun w ho => movedM mw u A c ex ey 0 _ (hA.own ho) hm hmw hsp14) ?_
        rintro _ Hm ⟨A5, c5, rfl, hO5⟩
        refine RS.perm List.perm_append_comm ?_
        refine RS.q rfl (QO.move) ?_
        refine RS.q rfl (QO.extract (by rfl) (by rfl)) ?_
        refine RS.q rfl (QO.extract (by rfl) (by rfl)) ?_
        refine RS.alloc rfl ty61 ?_
        intro g13
        first | refine RS.storeB ty61 (by rfl) (by rfl) (by rfl) (by rfl) (by rfl) (by repeat (first | exact Upd.head | apply Upd.tail)) (by rfl) ?_ | refine RS.storeP ty61 (by rfl) (by rfl) (by rfl) (by rfl) (by rfl) (by repeat (first | exact Upd.head | apply Upd.tail)) (by rfl) ?_
        refine RS.q rfl (QO.assign) ?_
        refine RS.nil ?_
        refine thenC_n ?_
        refine CS.seq ?_
        refine CS.seq ?_
        refine CS.region ?_
        refine RS.q rfl (QO.move) ?_
        refine RS.qv rfl (QO.neq (by rfl) (by rfl)) (congrArg Value.bool (show ((0 : Int) != 0) = false from rfl)) ?_
        refine RS.nil ?_
        refine thenC_n ?_
        refine CS.condF (by rfl) rfl ?_
        refine CS.skip ?_
        refine thenC_n ?_
        refine CS.seq ?_
        refine CS.region ?_
        have hmz := mov_zero hsp14
        have hmw2 : movW u ex ey = mw := hmz.2.1.symm.trans hmw
        have hwe : winE mw = 0 := hmw2 ▸ hmz.2.2
        have hmwl : mw.pts.length ≤ maxLen := hmw ▸ movR_len hm
        have hro := regErr_ok hsp11.2
        first | (refine RS.q rfl (QO.loadB ty23 (by rfl) (by repeat (first | exact List.Mem.head _ | refine List.Mem.tail _ ?_)) (by rfl)) ?_) | (refine RS.q rfl (QO.loadA ty23 (by rfl) (by repeat (first | exact List.Mem.head _ | refine List.Mem.tail _ ?_)) (by rfl) (by rfl)) ?_) | (refine RS.q rfl (QO.loadOA ty23 (by rfl) (by assumption) (by rfl)) ?_)
        refine RS.alloc rfl ty23 ?_
        intro g14
        first | refine RS.storeB ty23 (by rfl) (by rfl) (by rfl) (by rfl) (by rfl) (by repeat (first | exact Upd.head | apply Upd.tail)) (by rfl) ?_ | refine RS.storeP ty23 (by rfl) (by rfl) (by rfl) (by rfl) (by rfl) (by repeat (first | exact Upd.head | apply Upd.tail)) (by rfl) ?_
        refine RS.nil ?_
        refine thenC_n ?_
        refine CS.seq ?_
        refine CS.drawS (HS := [⟨g5, 23, [iv rx, iv ry, iv (a : Int), iv (b : Int)]⟩]) 11 (by repeat (first | exact List.Sublist.refl _ | exact List.nil_sublist _ | refine List.Sublist.cons_cons _ ?_ | refine List.Sublist.cons _ ?_ | exact Sbp.refl | exact Sbp.nil | refine Sbp.cons (by repeat (first | exact Rem.head | apply Rem.tail)) ?_ | exact Sbp.app | refine Sbp.skip ?_ | exact List.sublist_append_left _ _ | exact List.sublist_append_right _ _)) rfl (by kernel_rfl) (by kernel_rfl) ?_
        refine RT.take (i := 0) rfl (by kernel_rfl) rfl (QO.fieldAddr fo23_0 (by rfl)) ?_
        first | (refine RT.take (i := 1) rfl (by kernel_rfl) rfl (QO.load ty3 (by rfl) (by repeat (first | exact List.Mem.head _ | refine List.Mem.tail _ ?_)) (by rfl)) ?_) | (refine RT.take (i := 1) rfl (by kernel_rfl) rfl (QO.loadO ty3 (by rfl) (by assumption)) ?_) | (refine RT.take (i := 1) rfl (by kernel_rfl) rfl (QO.load ty3 (by rfl) (by repeat (first | exact List.Mem.head _ | refine List.Mem.tail _ ?_)) (by assumption)) ?_)
        refine RT.take (i := 2) rfl (by kernel_rfl) rfl (QO.move) ?_
        first | (refine RT.take (i := 3) rfl (by kernel_rfl) rfl (QO.add (by rfl) (by rfl) (by omega) (by omega)) ?_) | (refine RT.take (i := 3) rfl (by kernel_rfl) rfl (QO.ibin (by rfl) (by rfl) trivial) ?_)
        refine RT.take (i := 4) rfl (by kernel_rfl) rfl (QO.fieldAddr fo23_1 (by rfl)) ?_
        first | (refine RT.take (i := 5) rfl (by kernel_rfl) rfl (QO.load ty3 (by rfl) (by repeat (first | exact List.Mem.head _ | refine List.Mem.tail _ ?_)) (by rfl)) ?_) | (refine RT.take (i := 5) rfl (by kernel_rfl) rfl (QO.loadO ty3 (by rfl) (by assumption)) ?_) | (refine RT.take (i := 5) rfl (by kernel_rfl) rfl (QO.load ty3 (by rfl) (by repeat (first | exact List.Mem.head _ | refine List.Mem.tail _ ?_)) (by assumption)) ?_)
        refine RT.take (i := 6) rfl (by kernel_rfl) rfl (QO.move) ?_
        first | (refine RT.take (i := 7) rfl (by kernel_rfl) rfl (QO.add (by rfl) (by rfl) (by omega) (by omega)) ?_) | (refine RT.take (i := 7) rfl (by kernel_rfl) rfl (QO.ibin (by rfl) (by rfl) trivial) ?_)
        refine RT.take (i := 8) rfl (by kernel_rfl) rfl (QO.fieldAddr fo23_0 (by rfl)) ?_
        refine RT.one (i := 9) (by kernel_rfl) rfl rfl ?_
        refine RS.store1 ty3 rfl (by rfl) (by rfl) (by rfl) (by repeat (first | exact Upd.head | apply Upd.tail)) (by first | (simp; done) | (simp; omega) | omega) ?_
        refine RS.nil ⟨(by repeat (first | exact List.Sublist.refl _ | exact List.nil_sublist _ | refine List.Sublist.cons_cons _ ?_ | refine List.Sublist.cons _ ?_ | exact Sbp.refl | exact Sbp.nil | refine Sbp.cons (by repeat (first | exact Rem.head | apply Rem.tail)) ?_ | exact Sbp.app | refine Sbp.skip ?_ | exact List.sublist_append_left _ _ | exact List.sublist_append_right _ _)), ?_⟩
        refine RT.take (i := 10) rfl (by kernel_rfl) rfl (QO.fieldAddr fo23_1 (by rfl)) ?_
        refine RT.tail (i := 11) (by kernel_rfl) rfl rfl ?_
        refine RS.store1 ty3 rfl (by rfl) (by rfl) (by rfl) (by repeat (first | exact Upd.head | apply Upd.tail)) (by first | (simp; done) | (simp; omega) | omega) ?_
        refine RS.nil ?_
        refine RT.done (by kernel_rfl) ?_
        refine thenC_n ?_
        refine CS.seq ?_
        by_cases hsp19 : regErr (rx + ex) (ry + ey) (a : Int) (b : Int) = 0
        · refine CS.region ?_
          first | (refine RS.q rfl (QO.loadB ty61 (by rfl) (by repeat (first | exact List.Mem.head _ | refine List.Mem.tail _ ?_)) (by rfl)) ?_) | (refine RS.q rfl (QO.loadA ty61 (by rfl) (by repeat (first | exact List.Mem.head _ | refine List.Mem.tail _ ?_)) (by rfl) (by rfl)) ?_) | (refine RS.q rfl (QO.loadOA ty61 (by rfl) (by assumption) (by rfl)) ?_)
          first | (refine RS.q rfl (QO.loadB ty23 (by rfl) (by repeat (first | exact List.Mem.head _ | refine List.Mem.tail _ ?_)) (by rfl)) ?_) | (refine RS.q rfl (QO.loadA ty23 (by rfl) (by repeat (first | exact List.Mem.head _ | refine List.Mem.tail _ ?_)) (by rfl) (by rfl)) ?_) | (refine RS.q rfl (QO.loadOA ty23 (by rfl) (by assumption) (by rfl)) ?_)
          refine RS.call rfl (by rfl) ok31 (by rfl) (fun w ho => wmMoved mw A5 c5 u rx ry ex ey a b m n _ (hO5.at_ ho (Sbp.skip (Sbp.skip (Sbp.right Sbp.refl)))) hmwl hmw2 hsp11.1 hwe hsp19 hab hbb hwx hwy (by omega) (by omega)) ?_
          rintro _ _ ⟨gn, rfl, rfl⟩
          refine RS.q rfl (QO.move) ?_
          refine RS.q rfl (QO.extract (by rfl) (by rfl)) ?_
          refine RS.q rfl (QO.extract (by rfl) (by rfl)) ?_
          refine RS.alloc rfl ty70 ?_
          intro g15
          first | refine RS.storeB ty70 (by rfl) (by rfl) (by rfl) (by rfl) (by rfl) (by repeat (first | exact Upd.head | apply Upd.tail)) (by rfl) ?_ | refine RS.storeP ty70 (by rfl) (by rfl) (by rfl) (by rfl) (by rfl) (by repeat (first | exact Upd.head | apply Upd.tail)) (by rfl) ?_
          refine RS.q rfl (QO.assign) ?_
          refine RS.nil ?_
          refine thenC_n ?_
          refine CS.seq ?_
          refine CS.seq ?_
          refine CS.region ?_
          refine RS.q rfl (QO.move) ?_
          refine RS.qv rfl (QO.neq (by rfl) (by rfl)) (congrArg Value.bool (show ((0 : Int) != 0) = false from rfl)) ?_
          refine RS.nil ?_
          refine thenC_n ?_
          refine CS.condF (by rfl) rfl ?_
          refine CS.skip ?_
          refine thenC_n ?_
          refine CS.seq ?_
          refine CS.seq ?_
          refine CS.region ?_
          refine RS.q rfl (QO.fieldAddr fo70_1 (by rfl)) ?_
          first | (refine RS.q rfl (QO.load ty24 (by rfl) (by repeat (first | exact List.Mem.head _ | refine List.Mem.tail _ ?_)) (by rfl)) ?_) | (refine RS.q rfl (QO.loadO ty24 (by rfl) (by assumption)) ?_) | (refine RS.q rfl (QO.load ty24 (by rfl) (by repeat (first | exact List.Mem.head _ | refine List.Mem.tail _ ?_)) (by assumption)) ?_)
          refine RS.q rfl (QO.lenS Try.underlying24 (by rfl)) ?_
          refine RS.q rfl (QO.move) ?_
          refine RS.nil ?_
          refine thenC_n ?_
          refine CS.block ?_
          refine CS.loop (X := Nat) (8 :: 16 :: 17 :: 100 :: 101 :: 102 :: 103 :: 104 :: 105 :: 106 :: 107 :: 108 :: 109 :: 110 :: 111 :: 112 :: []) (fun k => [(100, iv (k : Int))]) (fun k => [⟨g15, 70, [iv (rx + ex), iv (ry + ey), iv (a : Int), iv (b : Int), .slice (some ⟨gn, 0, none⟩) (a * b) (a * b)]⟩, ⟨gn, 29, ((List.range (a * b)).map (covF u rx ry a m n)).map flt⟩, ⟨g11, 70, [iv rx, iv ry, iv (a : Int), iv (b : Int), .slice (some ⟨gm, 0, none⟩) (a * b) (a * b)]⟩, ⟨gm, 29, ((List.range (a * b)).map (covF u rx ry a m n)).map flt⟩]) (fun k => k ≤ a * b) (fun k => a * b - k) 0 (Nat.zero_le _) ?_ ?_ ?_
          · exact (by repeat (first | exact kn_nil | refine kn_cons (by rfl) ?_))
          · exact (by repeat (first | exact List.Sublist.refl _ | exact List.nil_sublist _ | refine List.Sublist.cons_cons _ ?_ | refine List.Sublist.cons _ ?_ | exact Sbp.refl | exact Sbp.nil | refine Sbp.cons (by repeat (first | exact Rem.head | apply Rem.tail)) ?_ | exact Sbp.app | refine Sbp.skip ?_ | exact List.sublist_append_left _ _ | exact List.sublist_append_right _ _))
          · intro k gj23 hz
            refine CS.seq ?_
            refine CS.region ?_
            refine RS.q rfl (QO.lss (by rfl) (by rfl)) ?_
            refine RS.nil ?_
            refine thenC_n ?_
            refine CS.seq ?_
            refine CS.cond (by rfl) (fun hb4 => ?_) (fun hb4 => ?_)
            · have hb4p := of_decide_eq_true hb4
              refine CS.skip ?_
              refine thenC_n ?_
              refine CS.seq ?_
              refine CS.block ?_
              refine CS.seq ?_
              refine CS.region ?_
              refine RS.q rfl (QO.move) ?_
              first | (refine RS.q rfl (QO.idx0 Try.underlying24 ty29 (by rfl) (by rfl) (by rfl) (by omega)) ?_) | (refine RS.q rfl (QO.idxn Try.underlying24 ty29 (by rfl) (by rfl) (by rfl) (by omega)) ?_) | (refine RS.q rfl (QO.idx1 Try.underlying24 ty29 (by rfl) (by rfl) (by omega) (by omega)) ?_)
              refine RS.q rfl (QO.load ty29 (by rfl) (by repeat (first | exact List.Mem.head _ | refine List.Mem.tail _ ?_)) (listAt (by omega))) ?_
              refine RS.q rfl (QO.assign) ?_
              refine RS.q rfl (QO.assign) ?_
              refine RS.nil ?_
              refine thenC_n ?_
              refine CS.seq ?_
              refine CS.region ?_
              refine RS.q rfl (QO.move) ?_
              refine RS.q rfl (QO.fieldAddr fo70_1 (by rfl)) ?_
              first | (refine RS.q rfl (QO.load ty24 (by rfl) (by repeat (first | exact List.Mem.head _ | refine List.Mem.tail _ ?_)) (by rfl)) ?_) | (refine RS.q rfl (QO.loadO ty24 (by rfl) (by assumption)) ?_) | (refine RS.q rfl (QO.load ty24 (by rfl) (by repeat (first | exact List.Mem.head _ | refine List.Mem.tail _ ?_)) (by assumption)) ?_)
              refine RS.q rfl (QO.move) ?_
              first | (refine RS.q rfl (QO.idx0 Try.underlying24 ty29 (by rfl) (by rfl) (by rfl) (by omega)) ?_) | (refine RS.q rfl (QO.idxn Try.underlying24 ty29 (by rfl) (by rfl) (by rfl) (by omega)) ?_) | (refine RS.q rfl (QO.idx1 Try.underlying24 ty29 (by rfl) (by rfl) (by omega) (by omega)) ?_)
              refine RS.q rfl (QO.load ty29 (by rfl) (by repeat (first | exact List.Mem.head _ | refine List.Mem.tail _ ?_)) (listAt (by omega))) ?_
              refine RS.qv rfl (QO.fcmp32 (by rfl) (by rfl) (by simp)) (congrArg Value.bool (covF_num hsp11.1)) ?_
              refine RS.nil ?_
              refine thenC_n ?_
              refine CS.condF (by rfl) rfl ?_
              refine CS.skip ?_
              refine blockC_n ?_
              refine thenC_n ?_
              refine CS.region ?_
              first | (refine RS.q rfl (QO.add (by rfl) (by rfl) (by omega) (by omega)) ?_) | (refine RS.q rfl (QO.ibin (by rfl) (by rfl) trivial) ?_)
              refine RS.q rfl (QO.move) ?_
              refine RS.nil ?_
              refine loopQ_n (by intro t ht; repeat (first | with_reducible exact rfl | exact frame_puts ht (frame_mix ht) _ rfl | (refine frame_put rfl ht ?_) | (refine frame_puts ht ?_ _ rfl) | exact frame_mix ht | (refine frame_mix2 rfl ht ?_) | exact rfl)) ?_
              exact ⟨k + 1, by omega, by omega, (by repeat (first | exact kn_nil | refine kn_cons (by rfl) ?_)), (by repeat (first | exact List.Sublist.refl _ | exact List.nil_sublist _ | refine List.Sublist.cons_cons _ ?_ | refine List.Sublist.cons _ ?_ | exact Sbp.refl | exact Sbp.nil | refine Sbp.cons (by repeat (first | exact Rem.head | apply Rem.tail)) ?_ | exact Sbp.app | refine Sbp.skip ?_ | exact List.sublist_append_left _ _ | exact List.sublist_append_right _ _))⟩
            · have hb4p := of_decide_eq_false hb4
              refine CS.exit ?_
              refine thenC_x ?_
              refine loopQ_x ?_
              refine blockC_x ?_
              refine thenC_n ?_
              refine CS.seq ?_
              refine CS.region ?_
              refine RS.q rfl (QO.fieldAddr fo70_1 (by rfl)) ?_
              first | (refine RS.q rfl (QO.load ty24 (by rfl) (by repeat (first | exact List.Mem.head _ | refine List.Mem.tail _ ?_)) (by rfl)) ?_) | (refine RS.q rfl (QO.loadO ty24 (by rfl) (by assumption)) ?_) | (refine RS.q rfl (QO.load ty24 (by rfl) (by repeat (first | exact List.Mem.head _ | refine List.Mem.tail _ ?_)) (by assumption)) ?_)
              refine RS.q rfl (QO.lenS Try.underlying24 (by rfl)) ?_
              refine RS.q rfl (QO.fieldAddr fo70_1 (by rfl)) ?_
              first | (refine RS.q rfl (QO.load ty24 (by rfl) (by repeat (first | exact List.Mem.head _ | refine List.Mem.tail _ ?_)) (by rfl)) ?_) | (refine RS.q rfl (QO.loadO ty24 (by rfl) (by assumption)) ?_) | (refine RS.q rfl (QO.load ty24 (by rfl) (by repeat (first | exact List.Mem.head _ | refine List.Mem.tail _ ?_)) (by assumption)) ?_)
              refine RS.q rfl (QO.lenS Try.underlying24 (by rfl)) ?_
              refine RS.qv rfl (QO.eql (by rfl) (by rfl)) (congrArg Value.bool (beq_self_eq_true _)) ?_
              refine RS.q rfl (QO.assign) ?_
              refine RS.nil ?_
              refine thenC_n ?_
              refine CS.ret ?_
              refine retQ.mk (H' := []) (.inr rfl) (RVs.tmp (by rfl) RVs.nil) (List.nil_sublist _) ?_
              exact ⟨rfl, rfl⟩
        · refine CS.region ?_
          first | (refine RS.q rfl (QO.loadB ty61 (by rfl) (by repeat (first | exact List.Mem.head _ | refine List.Mem.tail _ ?_)) (by rfl)) ?_) | (refine RS.q rfl (QO.loadA ty61 (by rfl) (by repeat (first | exact List.Mem.head _ | refine List.Mem.tail _ ?_)) (by rfl) (by rfl)) ?_) | (refine RS.q rfl (QO.loadOA ty61 (by rfl) (by assumption) (by rfl)) ?_)
          first | (refine RS.q rfl (QO.loadB ty23 (by rfl) (by repeat (first | exact List.Mem.head _ | refine List.Mem.tail _ ?_)) (by rfl)) ?_) | (refine RS.q rfl (QO.loadA ty23 (by rfl) (by repeat (first | exact List.Mem.head _ | refine List.Mem.tail _ ?_)) (by rfl) (by rfl)) ?_) | (refine RS.q rfl (QO.loadOA ty23 (by rfl) (by assumption) (by rfl)) ?_)
          refine RS.call rfl (by rfl) ok31 (by rfl) (fun w ho => wmBad2 mw A5 c5 (rx + ex) (ry + ey) a b _ (hO5.at_ ho (Sbp.skip (Sbp.skip (Sbp.right Sbp.refl)))) hmwl hwe hsp19) ?_
          rintro _ _ ⟨rfl, rfl⟩
          refine RS.q rfl (QO.move) ?_
          refine RS.q rfl (QO.extract (by rfl) (by rfl)) ?_
          refine RS.q rfl (QO.extract (by rfl) (by rfl)) ?_
          refine RS.alloc rfl ty70 ?_
          intro g15
          first | refine RS.storeB ty70 (by rfl) (by rfl) (by rfl) (by rfl) (by rfl) (by repeat (first | exact Upd.head | apply Upd.tail)) (by rfl) ?_ | refine RS.storeP ty70 (by rfl) (by rfl) (by rfl) (by rfl) (by rfl) (by repeat (first | exact Upd.head | apply Upd.tail)) (by rfl) ?_
          refine RS.q rfl (QO.assign) ?_
          refine RS.nil ?_
          refine thenC_n ?_
          refine CS.seq ?_
          refine CS.seq ?_
          refine CS.region ?_
          refine RS.q rfl (QO.move) ?_
          refine RS.qv rfl (QO.neq (by rfl) (by rfl)) (congrArg Value.bool (show (regErr (rx + ex) (ry + ey) (a : Int) (b : Int) != 0) = true from bne_iff_ne.2 hsp19)) ?_
          refine RS.nil ?_
          refine thenC_n ?_
          refine CS.condT (by rfl) rfl ?_
          refine CS.seq ?_
          refine CS.region ?_
          refine RS.q rfl (QO.move) ?_
          refine RS.qv rfl (QO.eql (by rfl) (by rfl)) (congrArg Value.bool (show (regErr (rx + ex) (ry + ey) (a : Int) (b : Int) == 5) = true from beq_iff_eq.2 (reg5 hab hbb hsp19))) ?_
          refine RS.q rfl (QO.assign) ?_
          refine RS.nil ?_
          refine thenC_n ?_
          refine CS.ret ?_
          refine thenC_r ?_
          refine retQ.mk (H' := []) (.inr rfl) (RVs.tmp (by rfl) RVs.nil) (List.nil_sublist _) ?_
          exact ⟨rfl, rfl⟩
      · refine CS.region ?_
        first | (refine RS.q rfl (QO.loadB ty61 (by rfl) (by repeat (first | exact List.Mem.head _ | refine List.Mem.tail _ ?_)) (by rfl)) ?_) | (refine RS.q rfl (QO.loadA ty61 (by rfl) (by repeat (first | exact List.Mem.head _ | refine List.Mem.tail _ ?_)) (by rfl) (by rfl)) ?_) | (refine RS.q rfl (QO.loadOA ty61 (by rfl) (by assumption) (by rfl)) ?_)
        refine RS.q rfl (QO.move) ?_
        refine RS.q rfl (QO.move) ?_
        refine RS.call rfl (by rfl) ok28 (by rfl) (fun w ho => movedM mw u A c ex ey (movE u ex ey) _ (hA.own ho) hm hmw rfl) ?_
        rintro _ Hm ⟨A5, c5, rfl, hO5⟩
        refine RS.perm List.perm_append_comm ?_
        refine RS.q rfl (QO.move) ?_
        refine RS.q rfl (QO.extract (by rfl) (by rfl)) ?_
        refine RS.q rfl (QO.extract (by rfl) (by rfl)) ?_
        refine RS.alloc rfl ty61 ?_
        intro g13
        first | refine RS.storeB ty61 (by rfl) (by rfl) (by rfl) (by rfl) (by rfl) (by repeat (first | exact Upd.head | apply Upd.tail)) (by rfl) ?_ | refine RS.storeP ty61 (by rfl) (by rfl) (by rfl) (by rfl) (by rfl) (by repeat (first | exact Upd.head | apply Upd.tail)) (by rfl) ?_
        refine RS.q rfl (QO.assign) ?_
        refine RS.nil ?_
        refine thenC_n ?_
        refine CS.seq ?_
        refine CS.seq ?_
        refine CS.region ?_
        refine RS.q rfl (QO.move) ?_
        refine RS.qv rfl (QO.neq (by rfl) (by rfl)) (congrArg Value.bool (show (movE u ex ey != 0) = true from bne_iff_ne.2 hsp14)) ?_
        refine RS.nil ?_
        refine thenC_n ?_
        refine CS.condT (by rfl) rfl ?_
        refine CS.seq ?_
        refine CS.region ?_
        refine RS.q rfl (QO.assign) ?_
        refine RS.nil ?_
        refine thenC_n ?_
        refine CS.ret ?_
        refine thenC_r ?_
        refine retQ.mk (H' := []) (.inr rfl) (RVs.tmp (by rfl) RVs.nil) (List.nil_sublist _) ?_
        exact ⟨rfl, rfl⟩
    · refine CS.region ?_
      first | (refine RS.q rfl (QO.loadB ty61 (by rfl) (by repeat (first | exact List.Mem.head _ | refine List.Mem.tail _ ?_)) (by rfl)) ?_) | (refine RS.q rfl (QO.loadA ty61 (by rfl) (by repeat (first | exact List.Mem.head _ | refine List.Mem.tail _ ?_)) (by rfl) (by rfl)) ?_) | (refine RS.q rfl (QO.loadOA ty61 (by rfl) (by assumption) (by rfl)) ?_)
      first | (refine RS.q rfl (QO.loadB ty23 (by rfl) (by repeat (first | exact List.Mem.head _ | refine List.Mem.tail _ ?_)) (by rfl)) ?_) | (refine RS.q rfl (QO.loadA ty23 (by rfl) (by repeat (first | exact List.Mem.head _ | refine List.Mem.tail _ ?_)) (by rfl) (by rfl)) ?_) | (refine RS.q rfl (QO.loadOA ty23 (by rfl) (by assumption) (by rfl)) ?_)
      refine RS.call rfl (by rfl) ok31 (by rfl) (fun w ho => wmBad u A c rx ry a b _ (hA.own ho) hm hsp11) ?_
      rintro _ _ ⟨e0, he0, rfl, rfl⟩
      refine RS.q rfl (QO.move) ?_
      refine RS.q rfl (QO.extract (by rfl) (by rfl)) ?_
      refine RS.q rfl (QO.extract (by rfl) (by rfl)) ?_
      refine RS.alloc rfl ty70 ?_
      intro g11
      first | refine RS.storeB ty70 (by rfl) (by rfl) (by rfl) (by rfl) (by rfl) (by repeat (first | exact Upd.head | apply Upd.tail)) (by rfl) ?_ | refine RS.storeP ty70 (by rfl) (by rfl) (by rfl) (by rfl) (by rfl) (by repeat (first | exact Upd.head | apply Upd.tail)) (by rfl) ?_
      refine RS.q rfl (QO.assign) ?_
      refine RS.nil ?_
      refine thenC_n ?_
      refine CS.seq ?_
      refine CS.seq ?_
      refine CS.region ?_
      refine RS.q rfl (QO.move) ?_
      refine RS.qv rfl (QO.neq (by rfl) (by rfl)) (congrArg Value.bool (show (e0 != 0) = true from bne_iff_ne.2 he0)) ?_
      refine RS.nil ?_
      refine thenC_n ?_
      refine CS.condT (by rfl) rfl ?_
      refine CS.seq ?_
      refine CS.region ?_
      refine RS.q rfl (QO.assign) ?_
      refine RS.nil ?_
      refine thenC_n ?_
      refine CS.ret ?_
      refine thenC_r ?_
      refine retQ.mk (H' := []) (.inr rfl) (RVs.tmp (by rfl) RVs.nil) (List.nil_sublist _) ?_
      exact ⟨rfl, rfl⟩

end Go.Proofs.Ytapcgokcfmklbaa

namespace Go.Proofs.Ytapcgokcfmklbaa
open Go Go.ChangeShapes Go.WideShapes Go.ChangeAt Go.RowKit
open Go.ChangeMaps (open_string shut_string)

theorem topMovedWindow_own : ownKnob Try.prog.godebug = none := by kernel_rfl
theorem topMovedWindow_laidOut : laidOutB Try.prog = true := by kernel_rfl
theorem topMovedWindow_lv61 : leaves Try.prog 9 61 = some [3, 29, 29, 29, 29, 29, 59, 4] := by kernel_rfl
theorem topMovedWindow_lv23 : leaves Try.prog 9 23 = some [3, 3, 3, 3] := by kernel_rfl
theorem topMovedWindow_lv31 : leaves Try.prog 9 31 = some [3, 3] := by kernel_rfl
theorem topMovedWindow_co31 : Try.prog.cellsOf 31 = 2 := by kernel_rfl

set_option maxHeartbeats 4000000 in
set_option maxRecDepth 100000 in
theorem topMovedWindow_lifted (os : Os) (started : os.Started) (H : Type) (enc : TypeId × Value → H) :
    ReturnsInHanded {} Try.checked os 6 .any (Rows.topMovedWindowSpec.pre6 enc Try.prog Try.f6 Rows.topMovedWindowRow.domain false) (Rows.topMovedWindowSpec.post enc Try.prog Try.f6 false true false false) := by
  refine returnsInHanded_of_change (C := Try.checked) topMovedWindow_own started (by kernel_rfl) Try.func6
    (ChangeSpec.witness6 (enc := enc) (C := Try.checked) false ⟨#[], #[.agg #[.int .i64 0, .float .f32 0, .float .f32 0, .float .f32 0, .float .f32 0, .float .f32 0, .slice none 0 0, .bool false], .agg #[.int .i64 0, .int .i64 0, .int .i64 0, .int .i64 0], .int .i64 0, .int .i64 0], []⟩ 8 (by kernel_rfl) (by kernel_rfl) (by kernel_rfl) (by kernel_rfl)) ?_
  intro W base args ds gs before hval0 hW hcnd _
  have hval : ∀ (j : Nat) t v, Try.f6.params[j]? = some t → args[j]? = some v → Value.okWide Try.prog W .any base t v := hval0
  have hW' := hW
  obtain ⟨p, q, hA0, hV, rfl, hfz, hnd⟩ := hW
  have hA : DataW.TrodAll enc Try.prog W 0 (fun _ => true) true Try.f6.params.toList args.toList ds p := hA0
  rw [Try.params6] at hA hval
  obtain ⟨v0, vs0, d0, ds0, p0, q0, hargs, rfl, rfl, h0, r0⟩ := trodAll_cons hA
  obtain ⟨v1, vs1, d1, ds1, p1, q1, rfl, rfl, rfl, h1, r1⟩ := trodAll_cons r0
  obtain ⟨v2, vs2, d2, ds2, p2, q2, rfl, rfl, rfl, h2, r2⟩ := trodAll_cons r1
  obtain ⟨v3, vs3, d3, ds3, p3, q3, rfl, rfl, rfl, h3, r3⟩ := trodAll_cons r2
  obtain ⟨rfl, rfl, rfl⟩ := trodAll_nil r3
  obtain rfl : args = #[v0, v1, v2, v3] := by cases args; simp_all
  obtain ⟨rfl, rfl⟩ := trodVars_none hV
  have k0 := h0
  have lt0 : ∀ x ∈ p0, x.block < W.heap.size := by obtain ⟨m, hm⟩ := k0; exact DataW.trod_lt m _ _ _ hm
  have k1 := h1
  have lt1 : ∀ x ∈ p1, x.block < W.heap.size := by obtain ⟨m, hm⟩ := k1; exact DataW.trod_lt m _ _ _ hm
  have k2 := h2
  have lt2 : ∀ x ∈ p2, x.block < W.heap.size := by obtain ⟨m, hm⟩ := k2; exact DataW.trod_lt m _ _ _ hm
  have k3 := h3
  have lt3 : ∀ x ∈ p3, x.block < W.heap.size := by obtain ⟨m, hm⟩ := k3; exact DataW.trod_lt m _ _ _ hm
  obtain ⟨cs0, rfl, a0⟩ := open_agg Try.underlying61 topMovedWindow_lv61 (hval 0 61 v0 rfl rfl) h0
  obtain ⟨c0_0, cs0_0, rfl, l0_0, a0_0⟩ := a0.cons_inv
  obtain ⟨c0_1, cs0_1, rfl, l0_1, a0_1⟩ := a0_0.cons_inv
  obtain ⟨c0_2, cs0_2, rfl, l0_2, a0_2⟩ := a0_1.cons_inv
  obtain ⟨c0_3, cs0_3, rfl, l0_3, a0_3⟩ := a0_2.cons_inv
  obtain ⟨c0_4, cs0_4, rfl, l0_4, a0_4⟩ := a0_3.cons_inv
  obtain ⟨c0_5, cs0_5, rfl, l0_5, a0_5⟩ := a0_4.cons_inv
  obtain ⟨c0_6, cs0_6, rfl, l0_6, a0_6⟩ := a0_5.cons_inv
  obtain ⟨c0_7, cs0_7, rfl, l0_7, a0_7⟩ := a0_6.cons_inv
  obtain rfl := a0_7.nil_inv
  obtain ⟨kd, el0_0, l0_0_w⟩ := l0_0.int Try.underlying3
  cases el0_0
  obtain ⟨ux, el0_1, l0_1_w⟩ := l0_1.float Try.underlying29
  cases el0_1
  obtain ⟨uy, el0_2, l0_2_w⟩ := l0_2.float Try.underlying29
  cases el0_2
  obtain ⟨uw, el0_3, l0_3_w⟩ := l0_3.float Try.underlying29
  cases el0_3
  obtain ⟨uh, el0_4, l0_4_w⟩ := l0_4.float Try.underlying29
  cases el0_4
  obtain ⟨us, el0_5, l0_5_w⟩ := l0_5.float Try.underlying29
  cases el0_5
  obtain ⟨ps_A, ps_c, ps, el0_6, ps_k, ps_m, ps_f⟩ := l0_6.points Try.underlying59 topMovedWindow_lv31 topMovedWindow_co31 Try.underlying3 Try.underlying3
  cases el0_6
  obtain ⟨uo, el0_7⟩ := l0_7.bool Try.underlying4
  cases el0_7
  obtain ⟨cs1, rfl, a1⟩ := open_agg Try.underlying23 topMovedWindow_lv23 (hval 1 23 v1 rfl rfl) h1
  obtain ⟨c1_0, cs1_0, rfl, l1_0, a1_0⟩ := a1.cons_inv
  obtain ⟨c1_1, cs1_1, rfl, l1_1, a1_1⟩ := a1_0.cons_inv
  obtain ⟨c1_2, cs1_2, rfl, l1_2, a1_2⟩ := a1_1.cons_inv
  obtain ⟨c1_3, cs1_3, rfl, l1_3, a1_3⟩ := a1_2.cons_inv
  obtain rfl := a1_3.nil_inv
  obtain ⟨rx, el1_0, l1_0_w⟩ := l1_0.int Try.underlying3
  cases el1_0
  obtain ⟨ry, el1_1, l1_1_w⟩ := l1_1.int Try.underlying3
  cases el1_1
  obtain ⟨rw_, el1_2, l1_2_w⟩ := l1_2.int Try.underlying3
  cases el1_2
  obtain ⟨rh, el1_3, l1_3_w⟩ := l1_3.int Try.underlying3
  cases el1_3
  have hc2 : v2.cells.toList = [v2] := by obtain ⟨_, rfl⟩ := okWide_int Try.underlying3 (hval 2 3 v2 rfl rfl); rfl
  have l2 := leaf_of h2 hc2
  obtain ⟨dx, el2, l2_w⟩ := l2.int Try.underlying3
  cases el2
  have hc3 : v3.cells.toList = [v3] := by obtain ⟨_, rfl⟩ := okWide_int Try.underlying3 (hval 3 3 v3 rfl rfl); rfl
  have l3 := leaf_of h3 hc3
  obtain ⟨dy, el3, l3_w⟩ := l3.int Try.underlying3
  cases el3
  clear hA0 hval0
  refine Calls.mono (topMovedWindow ⟨kd, ux, uy, uw, uh, us, ps, uo⟩ ps_A ps_c rx ry rw_ rh dx dy W ps_f (Nat.le_trans ps_k ps_m)) fun e W' hp => ?_
  obtain ⟨v, HL, rfl, own, rfl, rfl⟩ := hp
  have bel := own.below
  exact ⟨_, rfl, _, _, _, [], _, [], hW', trodAll_mk1 (shut_bool Try.underlying4 _), (trodAll_cons_mk (Below.trod topMovedWindow_laidOut (by kernel_rfl) (of_decide_eq_true (by kernel_rfl)) k0 bel lt0) (trodAll_cons_mk (Below.trod topMovedWindow_laidOut (by kernel_rfl) (of_decide_eq_true (by kernel_rfl)) k1 bel lt1) (trodAll_cons_mk (Below.trod topMovedWindow_laidOut (by kernel_rfl) (of_decide_eq_true (by kernel_rfl)) k2 bel lt2) (trodAll_cons_mk (Below.trod topMovedWindow_laidOut (by kernel_rfl) (of_decide_eq_true (by kernel_rfl)) k3 bel lt3) trodAll_mk0)))), rfl, bel.frame _, fun h => by cases h⟩

theorem topMovedWindow_over : Rows.topMovedWindowRow.holds Try.pinned (OpenSpec.ofChange Rows.topMovedWindowSpec) :=
  OpenClaim.holds_of_wide 6 Try.f6 rfl rfl rfl rfl rfl rfl rfl ⟨rfl, rfl, rfl, rfl, rfl⟩ rfl rfl rfl rfl rfl (by kernel_rfl) Try.func6 (by kernel_rfl)
    (of_decide_eq_true (by kernel_rfl)) (by unfold Func.isWrapper; first | (rw [if_pos (by decide +kernel)]; kernel_rfl) | (rw [if_neg (by decide +kernel)]; exact ⟨rfl, rfl⟩))
    (fun os started H enc _ => topMovedWindow_lifted os started H enc)

/-- THE STATEMENT. -/
theorem moved_holds : Rows.TopMovedWindowSaid := topMovedWindow_over
#print axioms moved_holds
end Go.Proofs.Ytapcgokcfmklbaa
