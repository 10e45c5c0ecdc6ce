/-
  Contracts: what stands in a frame of an edit list, as the reference has it. Conditions: as each theorem says.
-/
import Derived.Test.YtapcgokcfmklbaaDoorF1
import Derived.Test.YtapcgokcfmklbaaDoorTrk
namespace Go.Proofs.YtapcgokcfmklbaaDoor
open Go Go.Proofs Go.RowKit

theorem ok104 : callOK Tryd.prog 104 = true := by kernel_rfl
theorem ok105 : callOK Tryd.prog 105 = true := by kernel_rfl

section
variable {P : Program} {W : World} {H : HL} {e : Env} {x y : Operand} {t t' ty : TypeId}
theorem QO.quo64 {i j r : Nat} (hx : ev e x = .float .f64 i) (hy : ev e y = .float .f64 j) (h : Ieee.double.div i j = some r) : QO P W H e (.binOp .quo t x y t') ty (.float .f64 r) := by
  refine QO.bin hx hy (fun w => ?_)
  have h1 : (eqGuard .quo t x y (.float .f64 i) (.float .f64 j)).run P w = .ok () w := by simp [eqGuard]
  simp only [Sem.run_bind, h1, Result.andThen_ok]
  simp [binOp, Op.floatArith, FloatKind.format, h]
end

set_option maxRecDepth 100000 in
theorem rconv (n : Int) (W : World) : Fn_ Tryd.prog 105 #[iv n] W (fun v H => v = flt (cvF n) ∧ H = []) := by
  refine Fn_.intro Tryd.func105 rfl rfl (by rfl) ?_
  refine CS.seq ?_
  refine CS.region ?_
  refine RS.q rfl (QO.assign) ?_
  refine RS.nil ?_
  refine thenC_n ?_
  refine CS.seq ?_
  refine CS.region ?_
  refine RS.q rfl (QO.move) ?_
  refine RS.q rfl (QO.conv_i64_f32 Tryd.underlying3 Tryd.underlying36 (by rfl)) ?_
  refine RS.q rfl (QO.assign) ?_
  refine RS.nil ?_
  refine thenC_n ?_
  refine CS.ret ?_
  refine retQ.mk (H' := []) (.inr rfl) (RVs.tmp (by rfl) RVs.nil) (List.nil_sublist _) ?_
  exact ⟨rfl, rfl⟩

set_option maxRecDepth 100000 in
theorem rdivS (a b x y z s : Nat) (W : World) (h1 : floatToFloatBits .f32 a .f64 = some x) (h2 : floatToFloatBits .f32 b .f64 = some y) (h3 : Ieee.double.div x y = some z) (h4 : floatToFloatBits .f64 z .f32 = some s) : Fn_ Tryd.prog 104 #[flt a, flt b] W (fun v H => v = flt s ∧ H = []) := by
  refine Fn_.intro Tryd.func104 rfl rfl (by rfl) ?_
  refine CS.seq ?_
  refine CS.region ?_
  refine RS.q rfl (QO.assign) ?_
  refine RS.nil ?_
  refine thenC_n ?_
  refine CS.seq ?_
  refine CS.region ?_
  refine RS.q rfl (QO.move) ?_
  refine RS.q rfl (QO.conv_ff (s := .f32) (k := .f64) (by rw [Tryd.underlying36]; rfl) Tryd.underlying195 (by rfl) h1) ?_
  refine RS.q rfl (QO.move) ?_
  refine RS.q rfl (QO.conv_ff (s := .f32) (k := .f64) (by rw [Tryd.underlying36]; rfl) Tryd.underlying195 (by rfl) h2) ?_
  refine RS.q rfl (QO.quo64 (by rfl) (by rfl) h3) ?_
  refine RS.q rfl (QO.conv_ff (s := .f64) (k := .f32) (by rw [Tryd.underlying195]; rfl) Tryd.underlying36 (by rfl) h4) ?_
  refine RS.q rfl (QO.assign) ?_
  refine RS.nil ?_
  refine thenC_n ?_
  refine CS.ret ?_
  refine retQ.mk (H' := []) (.inr rfl) (RVs.tmp (by rfl) RVs.nil) (List.nil_sublist _) ?_
  exact ⟨rfl, rfl⟩

theorem rdivI (a b : Int) (W : World) (h1 : 1 ≤ a) (h2 : a < b) (h3 : b ≤ 251) : Fn_ Tryd.prog 104 #[flt (cvF a), flt (cvF b)] W (fun v H => v = flt (shB a.toNat b.toNat) ∧ H = []) := by
  obtain ⟨_, _, _, x, y, z, k1, k2, k3, k4⟩ := shB_ok (a := a.toNat) (b := b.toNat) (by omega) (by omega) (by omega)
  rw [Int.toNat_of_nonneg (by omega)] at k1
  rw [Int.toNat_of_nonneg (by omega)] at k2
  exact rdivS _ _ x y z _ W k1 k2 k3 k4

set_option maxHeartbeats 8000000 in
set_option maxRecDepth 100000 in
theorem rat1 (t : List UInt8) (rate : Int) (A : Option Addr) (n c : Nat) (l : List Ev) (f : Int) (W : World) (hl : l.length = n) (hES : ES W A l) (hE : edE t rate l = 0) (hm : n ≤ maxLen) (hf0 : 0 ≤ f) : Fn_ Tryd.prog 44 #[.agg #[sv t, iv rate, .slice A n c], iv f] W (fun v H => v = atV (atR l f) ∧ H = []) := by
  subst hl
  unfold maxLen at hm
  have hok4 := (edE_ok hE).2.2.2
  refine Fn_.intro Tryd.func44 rfl rfl (by rfl) ?_
  refine CS.seq ?_
  refine CS.region ?_
  refine RS.box rfl (by rfl) (by rfl) ?_
  intro g2
  refine RS.alloc rfl ty82 ?_
  intro g4
  refine RS.q rfl (QO.assign) ?_
  refine RS.nil ?_
  refine thenC_n ?_
  refine CS.seq ?_
  refine CS.seq ?_
  refine CS.region ?_
  refine RS.q rfl (QO.move) ?_
  refine RS.q rfl (QO.lss (by rfl) (by rfl)) ?_
  refine RS.nil ?_
  refine thenC_n ?_
  refine CS.condF (by rfl) (decide_eq_false (by omega)) ?_
  refine CS.skip ?_
  refine thenC_n ?_
  refine CS.seq ?_
  refine CS.seq ?_
  refine CS.region ?_
  refine RS.q rfl (QO.fieldAddr fo52_2 (by rfl)) ?_
  first | (refine RS.q rfl (QO.load ty50 (by rfl) (by repeat (first | exact List.Mem.head _ | refine List.Mem.tail _ ?_)) (by rfl)) ?_) | (refine RS.q rfl (QO.loadO ty50 (by rfl) (by assumption)) ?_) | (refine RS.q rfl (QO.load ty50 (by rfl) (by repeat (first | exact List.Mem.head _ | refine List.Mem.tail _ ?_)) (by assumption)) ?_)
  refine RS.q rfl (QO.lenS Tryd.underlying50 (by rfl)) ?_
  refine RS.q rfl (QO.move) ?_
  refine RS.nil ?_
  refine thenC_n ?_
  refine CS.block ?_
  refine CS.loop (X := Nat) (5 :: 6 :: 7 :: 8 :: 9 :: 10 :: 17 :: 18 :: 19 :: 20 :: 21 :: 22 :: 23 :: 24 :: 25 :: 26 :: 27 :: 28 :: 29 :: 30 :: 31 :: 32 :: 33 :: 34 :: 35 :: 36 :: 37 :: 38 :: 39 :: 40 :: 41 :: 42 :: 43 :: 44 :: 45 :: 46 :: 47 :: 48 :: 49 :: 50 :: 51 :: 52 :: 53 :: 54 :: 55 :: 56 :: 57 :: 58 :: 59 :: 60 :: 61 :: 62 :: 63 :: 64 :: 65 :: 66 :: 67 :: 68 :: 69 :: 70 :: 71 :: 72 :: 73 :: 74 :: 75 :: 76 :: 77 :: 78 :: []) (fun k => [(17, iv (k : Int))]) (fun k => [⟨g2, 52, [sv t, iv rate, .slice A l.length c]⟩, ⟨g4, 82, [iv 0, sv [], iv 0, sv [], iv 0, flt 0]⟩]) (fun k => k ≤ l.length ∧ fst l f k = none) (fun k => l.length - k) 0 ⟨Nat.zero_le _, rfl⟩ ?_ ?_ ?_
  · exact (by repeat (first | exact kn_nil | refine kn_cons (by rfl) ?_))
  · exact (by repeat (first | exact List.Sublist.refl _ | exact List.nil_sublist _ | refine List.Sublist.cons_cons _ ?_ | refine List.Sublist.cons _ ?_ | exact Sbp.refl | exact Sbp.nil | refine Sbp.cons (by repeat (first | exact Rem.head | apply Rem.tail)) ?_ | exact Sbp.app | refine Sbp.skip ?_))
  · intro k gj4 hz
    obtain ⟨hk, hfs⟩ := hz
    refine CS.seq ?_
    refine CS.region ?_
    refine RS.q rfl (QO.lss (by rfl) (by rfl)) ?_
    refine RS.nil ?_
    refine thenC_n ?_
    refine CS.seq ?_
    refine CS.cond (by rfl) (fun hb0 => ?_) (fun hb0 => ?_)
    · have hb0p := of_decide_eq_true hb0
      refine CS.skip ?_
      refine thenC_n ?_
      refine CS.seq ?_
      refine CS.block ?_
      refine CS.seq ?_
      refine CS.region ?_
      have hkl : k < l.length := by omega
      have hx1 := hES.at_ hkl
      obtain ⟨bA, oA, hA0, hcell⟩ := hx1
      subst hA0
      have hok := evE1_ok (hok4 k hkl)
      have hx2 : ∃ e, l.getD k default = e := ⟨_, rfl⟩
      obtain ⟨e, he⟩ := hx2
      rw [he] at hcell hok
      have hev : evEnd e = e.at_ + (e.out - e.inn) := rfl
      refine RS.q rfl (QO.move) ?_
      refine RS.q rfl (QO.idx Tryd.underlying50 ty134 (by rfl) (by rfl) (by omega) (by omega)) ?_
      refine RS.q rfl (QO.loadOA ty134 (vs := evc e) (by rfl) hcell (by rfl)) ?_
      refine RS.alloc rfl ty134 ?_
      intro g7
      refine RS.q rfl (QO.assign) ?_
      first | refine RS.storeB ty134 (by rfl) (by rfl) (by rfl) (by rfl) (by rfl) (by repeat (first | exact Upd.head | apply Upd.tail)) (by rfl) ?_ | refine RS.storeP ty134 (by rfl) (by rfl) (by rfl) (by rfl) (by rfl) (by repeat (first | exact Upd.head | apply Upd.tail)) (by rfl) ?_
      refine RS.nil ?_
      refine thenC_n ?_
      refine CS.seq ?_
      refine CS.seq ?_
      refine CS.region ?_
      refine RS.q rfl (QO.move) ?_
      refine RS.q rfl (QO.fieldAddr fo134_5 (by rfl)) ?_
      first | (refine RS.q rfl (QO.load ty3 (by rfl) (by repeat (first | exact List.Mem.head _ | refine List.Mem.tail _ ?_)) (by rfl)) ?_) | (refine RS.q rfl (QO.loadO ty3 (by rfl) (by assumption)) ?_) | (refine RS.q rfl (QO.load ty3 (by rfl) (by repeat (first | exact List.Mem.head _ | refine List.Mem.tail _ ?_)) (by assumption)) ?_)
      refine RS.q rfl (QO.lss (by rfl) (by rfl)) ?_
      refine RS.q rfl (QO.move) ?_
      refine RS.split (dj := 26) (by rfl) (fun hb1 => ?_) (fun hb1 => ?_)
      · have hb1p := of_decide_eq_true hb1
        refine RS.off (dj := 26) rfl (.inl (congrArg Value.bool hb1)) (fun _ => rfl) rfl ?_
        refine RS.off (dj := 26) rfl (.inl (congrArg Value.bool hb1)) (fun _ => rfl) rfl ?_
        refine RS.off (dj := 26) rfl (.inl (congrArg Value.bool hb1)) (fun _ => rfl) rfl ?_
        refine RS.off (dj := 26) rfl (.inl (congrArg Value.bool hb1)) (fun _ => rfl) rfl ?_
        refine RS.q rfl (QO.pickT (by rfl) hb1 (by rfl)) ?_
        refine RS.nil ?_
        refine thenC_n ?_
        refine CS.condT (by rfl) rfl ?_
        refine CS.exit ?_
        refine thenC_x ?_
        refine blockC_x ?_
        refine thenC_n ?_
        refine CS.region ?_
        first | (refine RS.q rfl (QO.add (by rfl) (by rfl) (by omega) (by omega)) ?_) | (refine RS.q rfl (QO.ibin (by rfl) (by rfl) trivial) ?_)
        refine RS.q rfl (QO.move) ?_
        refine RS.nil ?_
        refine loopQ_n (by intro t ht; repeat (first | with_reducible exact rfl | exact frame_puts ht (frame_mix ht) _ rfl | (refine frame_put rfl ht ?_) | (refine frame_puts ht ?_ _ rfl) | exact frame_mix ht | (refine frame_mix2 rfl ht ?_) | exact rfl)) ?_
        exact ⟨k + 1, ⟨by omega, fst_no hfs (by rw [he]; omega)⟩, by omega, (by repeat (first | exact kn_nil | refine kn_cons (by rfl) ?_)), (by repeat (first | exact List.Sublist.refl _ | exact List.nil_sublist _ | refine List.Sublist.cons_cons _ ?_ | refine List.Sublist.cons _ ?_ | exact Sbp.refl | exact Sbp.nil | refine Sbp.cons (by repeat (first | exact Rem.head | apply Rem.tail)) ?_ | exact Sbp.app | refine Sbp.skip ?_))⟩
      · have hb1p := of_decide_eq_false hb1
        refine RS.on (dj := 26) rfl (congrArg Value.bool hb1) ?_
        refine RS.q rfl (QO.move) ?_
        refine RS.on (dj := 26) rfl (congrArg Value.bool hb1) ?_
        first | (refine RS.q rfl (QO.loadB ty134 (by rfl) (by repeat (first | exact List.Mem.head _ | refine List.Mem.tail _ ?_)) (by rfl)) ?_) | (refine RS.q rfl (QO.loadA ty134 (by rfl) (by repeat (first | exact List.Mem.head _ | refine List.Mem.tail _ ?_)) (by rfl) (by rfl)) ?_) | (refine RS.q rfl (QO.loadOA ty134 (by rfl) (by assumption) (by rfl)) ?_)
        refine RS.on (dj := 26) rfl (congrArg Value.bool hb1) ?_
        refine RS.call rfl (by rfl) ok102 (by rfl) (fun w ho => rend e _ (by omega) (by omega)) ?_
        rintro _ _ ⟨rfl, rfl⟩
        refine RS.on (dj := 26) rfl (congrArg Value.bool hb1) ?_
        refine RS.q rfl (QO.geq (by rfl) (by rfl)) ?_
        refine RS.q rfl (QO.pickF (by rfl) hb1 (by rfl)) ?_
        refine RS.nil ?_
        refine thenC_n ?_
        refine CS.cond (by rfl) (fun hb2 => ?_) (fun hb2 => ?_)
        · have hb2p := of_decide_eq_true hb2
          refine CS.exit ?_
          refine thenC_x ?_
          refine blockC_x ?_
          refine thenC_n ?_
          refine CS.region ?_
          first | (refine RS.q rfl (QO.add (by rfl) (by rfl) (by omega) (by omega)) ?_) | (refine RS.q rfl (QO.ibin (by rfl) (by rfl) trivial) ?_)
          refine RS.q rfl (QO.move) ?_
          refine RS.nil ?_
          refine loopQ_n (by intro t ht; repeat (first | with_reducible exact rfl | exact frame_puts ht (frame_mix ht) _ rfl | (refine frame_put rfl ht ?_) | (refine frame_puts ht ?_ _ rfl) | exact frame_mix ht | (refine frame_mix2 rfl ht ?_) | exact rfl)) ?_
          exact ⟨k + 1, ⟨by omega, fst_no hfs (by rw [he]; omega)⟩, by omega, (by repeat (first | exact kn_nil | refine kn_cons (by rfl) ?_)), (by repeat (first | exact List.Sublist.refl _ | exact List.nil_sublist _ | refine List.Sublist.cons_cons _ ?_ | refine List.Sublist.cons _ ?_ | exact Sbp.refl | exact Sbp.nil | refine Sbp.cons (by repeat (first | exact Rem.head | apply Rem.tail)) ?_ | exact Sbp.app | refine Sbp.skip ?_))⟩
        · have hb2p := of_decide_eq_false hb2
          refine CS.skip ?_
          refine thenC_n ?_
          refine CS.seq ?_
          refine CS.region ?_
          refine RS.q rfl (QO.move) ?_
          refine RS.q rfl (QO.fieldAddr fo134_0 (by rfl)) ?_
          first | (refine RS.q rfl (QO.load ty9 (by rfl) (by repeat (first | exact List.Mem.head _ | refine List.Mem.tail _ ?_)) (by rfl)) ?_) | (refine RS.q rfl (QO.loadO ty9 (by rfl) (by assumption)) ?_) | (refine RS.q rfl (QO.load ty9 (by rfl) (by repeat (first | exact List.Mem.head _ | refine List.Mem.tail _ ?_)) (by assumption)) ?_)
          refine RS.q rfl (QO.fieldAddr fo134_3 (by rfl)) ?_
          first | (refine RS.q rfl (QO.load ty3 (by rfl) (by repeat (first | exact List.Mem.head _ | refine List.Mem.tail _ ?_)) (by rfl)) ?_) | (refine RS.q rfl (QO.loadO ty3 (by rfl) (by assumption)) ?_) | (refine RS.q rfl (QO.load ty3 (by rfl) (by repeat (first | exact List.Mem.head _ | refine List.Mem.tail _ ?_)) (by assumption)) ?_)
          refine RS.q rfl (QO.move) ?_
          first | (refine RS.q rfl (QO.add (by rfl) (by rfl) (by omega) (by omega)) ?_) | (refine RS.q rfl (QO.ibin (by rfl) (by rfl) trivial) ?_)
          refine RS.q rfl (QO.fieldAddr fo134_5 (by rfl)) ?_
          first | (refine RS.q rfl (QO.load ty3 (by rfl) (by repeat (first | exact List.Mem.head _ | refine List.Mem.tail _ ?_)) (by rfl)) ?_) | (refine RS.q rfl (QO.loadO ty3 (by rfl) (by assumption)) ?_) | (refine RS.q rfl (QO.load ty3 (by rfl) (by repeat (first | exact List.Mem.head _ | refine List.Mem.tail _ ?_)) (by assumption)) ?_)
          first | (refine RS.q rfl (QO.sub (by rfl) (by rfl) (by omega) (by omega)) ?_) | (refine RS.q rfl (QO.ibin (by rfl) (by rfl) trivial) ?_)
          refine RS.q rfl (QO.build ty82 pl82 (by rfl)) ?_
          refine RS.alloc rfl ty82 ?_
          intro g8
          first | refine RS.storeB ty82 (by rfl) (by rfl) (by rfl) (by rfl) (by rfl) (by repeat (first | exact Upd.head | apply Upd.tail)) (by rfl) ?_ | refine RS.storeP ty82 (by rfl) (by rfl) (by rfl) (by rfl) (by rfl) (by repeat (first | exact Upd.head | apply Upd.tail)) (by rfl) ?_
          refine RS.nil ?_
          refine thenC_n ?_
          refine CS.seq ?_
          refine CS.seq ?_
          refine CS.region ?_
          refine RS.q rfl (QO.move) ?_
          refine RS.q rfl (QO.fieldAddr fo134_5 (by rfl)) ?_
          first | (refine RS.q rfl (QO.load ty3 (by rfl) (by repeat (first | exact List.Mem.head _ | refine List.Mem.tail _ ?_)) (by rfl)) ?_) | (refine RS.q rfl (QO.loadO ty3 (by rfl) (by assumption)) ?_) | (refine RS.q rfl (QO.load ty3 (by rfl) (by repeat (first | exact List.Mem.head _ | refine List.Mem.tail _ ?_)) (by assumption)) ?_)
          first | (refine RS.q rfl (QO.sub (by rfl) (by rfl) (by omega) (by omega)) ?_) | (refine RS.q rfl (QO.ibin (by rfl) (by rfl) trivial) ?_)
          refine RS.q rfl (QO.assign) ?_
          refine RS.nil ?_
          refine thenC_n ?_
          refine CS.seq ?_
          refine CS.region ?_
          refine RS.q rfl (QO.move) ?_
          refine RS.q rfl (QO.fieldAddr fo134_2 (by rfl)) ?_
          first | (refine RS.q rfl (QO.load ty3 (by rfl) (by repeat (first | exact List.Mem.head _ | refine List.Mem.tail _ ?_)) (by rfl)) ?_) | (refine RS.q rfl (QO.loadO ty3 (by rfl) (by assumption)) ?_) | (refine RS.q rfl (QO.load ty3 (by rfl) (by repeat (first | exact List.Mem.head _ | refine List.Mem.tail _ ?_)) (by assumption)) ?_)
          refine RS.q rfl (QO.lss (by rfl) (by rfl)) ?_
          refine RS.nil ?_
          refine thenC_n ?_
          refine CS.cond (by rfl) (fun hb3 => ?_) (fun hb3 => ?_)
          · have hb3p := of_decide_eq_true hb3
            refine CS.seq ?_
            refine CS.region ?_
            have hx3 := hES.at_ (show k - 1 < l.length by omega)
            obtain ⟨bA2, oA2, hA2, hcel2⟩ := hx3
            obtain ⟨rfl, rfl⟩ : bA = bA2 ∧ oA = oA2 := by injection hA2 with hA2; injection hA2 with a1 a2; exact ⟨a1, a2⟩
            have hokp := evE1_ok (hok4 (k - 1) (by omega))
            have hx4 : ∃ p, l.getD (k - 1) default = p := ⟨_, rfl⟩
            obtain ⟨p, hp⟩ := hx4
            rw [hp] at hcel2 hokp
            refine RS.q rfl (QO.fieldAddr fo52_2 (by rfl)) ?_
            first | (refine RS.q rfl (QO.load ty50 (by rfl) (by repeat (first | exact List.Mem.head _ | refine List.Mem.tail _ ?_)) (by rfl)) ?_) | (refine RS.q rfl (QO.loadO ty50 (by rfl) (by assumption)) ?_) | (refine RS.q rfl (QO.load ty50 (by rfl) (by repeat (first | exact List.Mem.head _ | refine List.Mem.tail _ ?_)) (by assumption)) ?_)
            refine RS.q rfl (QO.move) ?_
            first | (refine RS.qv rfl (QO.sub (by rfl) (by rfl) (by omega) (by omega)) (congrArg iv (show (k : Int) - 1 = ((k - 1 : Nat) : Int) by omega)) ?_) | (refine RS.qv rfl (QO.ibin (by rfl) (by rfl) trivial) (congrArg iv (show (k : Int) - 1 = ((k - 1 : Nat) : Int) by omega)) ?_)
            refine RS.q rfl (QO.idx Tryd.underlying50 ty134 (by rfl) (by rfl) (by omega) (by omega)) ?_
            refine RS.q rfl (QO.loadOA ty134 (vs := evc p) (by rfl) hcel2 (by rfl)) ?_
            refine RS.alloc rfl ty134 ?_
            intro g10
            first | refine RS.storeB ty134 (by rfl) (by rfl) (by rfl) (by rfl) (by rfl) (by repeat (first | exact Upd.head | apply Upd.tail)) (by rfl) ?_ | refine RS.storeP ty134 (by rfl) (by rfl) (by rfl) (by rfl) (by rfl) (by repeat (first | exact Upd.head | apply Upd.tail)) (by rfl) ?_
            refine RS.nil ?_
            refine thenC_n ?_
            refine CS.drawS (HS := [⟨g10, 134, [sv p.reel, iv p.kind, iv p.len, iv p.inn, iv p.out, iv p.at_]⟩, ⟨g7, 134, [sv e.reel, iv e.kind, iv e.len, iv e.inn, iv e.out, iv e.at_]⟩]) 22 (by repeat (first | exact List.Sublist.refl _ | exact List.nil_sublist _ | refine List.Sublist.cons_cons _ ?_ | refine List.Sublist.cons _ ?_ | exact Sbp.refl | exact Sbp.nil | refine Sbp.cons (by repeat (first | exact Rem.head | apply Rem.tail)) ?_ | exact Sbp.app | refine Sbp.skip ?_)) rfl (by kernel_rfl) (by kernel_rfl) ?_
            refine RT.take (i := 0) rfl (by kernel_rfl) rfl (QO.fieldAddr fo134_0 (by rfl)) ?_
            first | (refine RT.take (i := 1) rfl (by kernel_rfl) rfl (QO.load ty9 (by rfl) (by repeat (first | exact List.Mem.head _ | refine List.Mem.tail _ ?_)) (by rfl)) ?_) | (refine RT.take (i := 1) rfl (by kernel_rfl) rfl (QO.loadO ty9 (by rfl) (by assumption)) ?_) | (refine RT.take (i := 1) rfl (by kernel_rfl) rfl (QO.load ty9 (by rfl) (by repeat (first | exact List.Mem.head _ | refine List.Mem.tail _ ?_)) (by assumption)) ?_)
            refine RT.take (i := 2) rfl (by kernel_rfl) rfl (QO.fieldAddr fo134_3 (by rfl)) ?_
            first | (refine RT.take (i := 3) rfl (by kernel_rfl) rfl (QO.load ty3 (by rfl) (by repeat (first | exact List.Mem.head _ | refine List.Mem.tail _ ?_)) (by rfl)) ?_) | (refine RT.take (i := 3) rfl (by kernel_rfl) rfl (QO.loadO ty3 (by rfl) (by assumption)) ?_) | (refine RT.take (i := 3) rfl (by kernel_rfl) rfl (QO.load ty3 (by rfl) (by repeat (first | exact List.Mem.head _ | refine List.Mem.tail _ ?_)) (by assumption)) ?_)
            refine RT.take (i := 4) rfl (by kernel_rfl) rfl (QO.move) ?_
            first | (refine RT.take (i := 5) rfl (by kernel_rfl) rfl (QO.add (by rfl) (by rfl) (by omega) (by omega)) ?_) | (refine RT.take (i := 5) rfl (by kernel_rfl) rfl (QO.ibin (by rfl) (by rfl) trivial) ?_)
            refine RT.take (i := 6) rfl (by kernel_rfl) rfl (QO.fieldAddr fo134_5 (by rfl)) ?_
            first | (refine RT.take (i := 7) rfl (by kernel_rfl) rfl (QO.load ty3 (by rfl) (by repeat (first | exact List.Mem.head _ | refine List.Mem.tail _ ?_)) (by rfl)) ?_) | (refine RT.take (i := 7) rfl (by kernel_rfl) rfl (QO.loadO ty3 (by rfl) (by assumption)) ?_) | (refine RT.take (i := 7) rfl (by kernel_rfl) rfl (QO.load ty3 (by rfl) (by repeat (first | exact List.Mem.head _ | refine List.Mem.tail _ ?_)) (by assumption)) ?_)
            first | (refine RT.take (i := 8) rfl (by kernel_rfl) rfl (QO.sub (by rfl) (by rfl) (by omega) (by omega)) ?_) | (refine RT.take (i := 8) rfl (by kernel_rfl) rfl (QO.ibin (by rfl) (by rfl) trivial) ?_)
            refine RT.take (i := 9) rfl (by kernel_rfl) rfl (QO.move) ?_
            first | (refine RT.take (i := 10) rfl (by kernel_rfl) rfl (QO.add (by rfl) (by rfl) (by omega) (by omega)) ?_) | (refine RT.take (i := 10) rfl (by kernel_rfl) rfl (QO.ibin (by rfl) (by rfl) trivial) ?_)
            refine RT.take (i := 12) rfl (by kernel_rfl) rfl (QO.fieldAddr fo134_2 (by rfl)) ?_
            first | (refine RT.take (i := 13) rfl (by kernel_rfl) rfl (QO.load ty3 (by rfl) (by repeat (first | exact List.Mem.head _ | refine List.Mem.tail _ ?_)) (by rfl)) ?_) | (refine RT.take (i := 13) rfl (by kernel_rfl) rfl (QO.loadO ty3 (by rfl) (by assumption)) ?_) | (refine RT.take (i := 13) rfl (by kernel_rfl) rfl (QO.load ty3 (by rfl) (by repeat (first | exact List.Mem.head _ | refine List.Mem.tail _ ?_)) (by assumption)) ?_)
            first | (refine RT.take (i := 14) rfl (by kernel_rfl) rfl (QO.add (by rfl) (by rfl) (by omega) (by omega)) ?_) | (refine RT.take (i := 14) rfl (by kernel_rfl) rfl (QO.ibin (by rfl) (by rfl) trivial) ?_)
            refine RT.take (i := 17) rfl (by kernel_rfl) rfl (QO.fieldAddr fo82_3 (by rfl)) ?_
            refine RT.one (i := 11) (by kernel_rfl) rfl rfl ?_
            refine RS.call rfl (by rfl) ok105 (by rfl) (fun w ho => rconv (f - e.at_ + 1) _) ?_
            rintro _ _ ⟨rfl, rfl⟩
            refine RS.nil ⟨(by repeat (first | exact List.Sublist.refl _ | exact List.nil_sublist _ | refine List.Sublist.cons_cons _ ?_ | refine List.Sublist.cons _ ?_ | exact Sbp.refl | exact Sbp.nil | refine Sbp.cons (by repeat (first | exact Rem.head | apply Rem.tail)) ?_ | exact Sbp.app | refine Sbp.skip ?_)), ?_⟩
            refine RT.one (i := 15) (by kernel_rfl) rfl rfl ?_
            refine RS.call rfl (by rfl) ok105 (by rfl) (fun w ho => rconv (e.len + 1) _) ?_
            rintro _ _ ⟨rfl, rfl⟩
            refine RS.nil ⟨(by repeat (first | exact List.Sublist.refl _ | exact List.nil_sublist _ | refine List.Sublist.cons_cons _ ?_ | refine List.Sublist.cons _ ?_ | exact Sbp.refl | exact Sbp.nil | refine Sbp.cons (by repeat (first | exact Rem.head | apply Rem.tail)) ?_ | exact Sbp.app | refine Sbp.skip ?_)), ?_⟩
            refine RT.one (i := 16) (by kernel_rfl) rfl rfl ?_
            refine RS.call rfl (by rfl) ok104 (by rfl) (fun w ho => rdivI (f - e.at_ + 1) (e.len + 1) _ (by omega) (by omega) (by omega)) ?_
            rintro _ _ ⟨rfl, rfl⟩
            refine RS.nil ⟨(by repeat (first | exact List.Sublist.refl _ | exact List.nil_sublist _ | refine List.Sublist.cons_cons _ ?_ | refine List.Sublist.cons _ ?_ | exact Sbp.refl | exact Sbp.nil | refine Sbp.cons (by repeat (first | exact Rem.head | apply Rem.tail)) ?_ | exact Sbp.app | refine Sbp.skip ?_)), ?_⟩
            refine RT.one (i := 18) (by kernel_rfl) rfl rfl ?_
            refine RS.store1 ty9 rfl (by rfl) (by rfl) (by rfl) (by repeat (first | exact Upd.head | apply Upd.tail)) (by first | (simp; done) | (simp; omega) | omega) ?_
            refine RS.nil ⟨(by repeat (first | exact List.Sublist.refl _ | exact List.nil_sublist _ | refine List.Sublist.cons_cons _ ?_ | refine List.Sublist.cons _ ?_ | exact Sbp.refl | exact Sbp.nil | refine Sbp.cons (by repeat (first | exact Rem.head | apply Rem.tail)) ?_ | exact Sbp.app | refine Sbp.skip ?_)), ?_⟩
            refine RT.take (i := 19) rfl (by kernel_rfl) rfl (QO.fieldAddr fo82_4 (by rfl)) ?_
            refine RT.one (i := 20) (by kernel_rfl) rfl rfl ?_
            refine RS.store1 ty3 rfl (by rfl) (by rfl) (by rfl) (by repeat (first | exact Upd.head | apply Upd.tail)) (by first | (simp; done) | (simp; omega) | omega) ?_
            refine RS.nil ⟨(by repeat (first | exact List.Sublist.refl _ | exact List.nil_sublist _ | refine List.Sublist.cons_cons _ ?_ | refine List.Sublist.cons _ ?_ | exact Sbp.refl | exact Sbp.nil | refine Sbp.cons (by repeat (first | exact Rem.head | apply Rem.tail)) ?_ | exact Sbp.app | refine Sbp.skip ?_)), ?_⟩
            refine RT.take (i := 21) rfl (by kernel_rfl) rfl (QO.fieldAddr fo82_5 (by rfl)) ?_
            refine RT.tail (i := 22) (by kernel_rfl) rfl rfl ?_
            refine RS.store1 ty36 rfl (by rfl) (by rfl) (by rfl) (by repeat (first | exact Upd.head | apply Upd.tail)) (by first | (simp; done) | (simp; omega) | omega) ?_
            refine RS.nil ?_
            refine RT.done (by kernel_rfl) ?_
            refine thenC_n ?_
            refine CS.seq ?_
            refine CS.region ?_
            first | (refine RS.q rfl (QO.loadB ty82 (by rfl) (by repeat (first | exact List.Mem.head _ | refine List.Mem.tail _ ?_)) (by rfl)) ?_) | (refine RS.q rfl (QO.loadA ty82 (by rfl) (by repeat (first | exact List.Mem.head _ | refine List.Mem.tail _ ?_)) (by rfl) (by rfl)) ?_) | (refine RS.q rfl (QO.loadOA ty82 (by rfl) (by assumption) (by rfl)) ?_)
            first | refine RS.storeB ty82 (by rfl) (by rfl) (by rfl) (by rfl) (by rfl) (by repeat (first | exact Upd.head | apply Upd.tail)) (by rfl) ?_ | refine RS.storeP ty82 (by rfl) (by rfl) (by rfl) (by rfl) (by rfl) (by repeat (first | exact Upd.head | apply Upd.tail)) (by rfl) ?_
            refine RS.q rfl (QO.assign) ?_
            refine RS.nil ?_
            refine thenC_n ?_
            refine CS.ret ?_
            refine blockC_r ?_
            refine thenC_r ?_
            refine loopQ_r ?_
            refine blockC_r ?_
            refine thenC_r ?_
            refine retQ.mk (H' := []) (.inr rfl) (RVs.cellA ty82 (by rfl) (by repeat (first | exact List.Mem.head _ | refine List.Mem.tail _ ?_)) (by rfl) (RVs.tmp (by rfl) RVs.nil)) (List.nil_sublist _) ?_
            exact ⟨at_dis hkl hfs he hp (by omega) (by omega) rfl, rfl⟩
          · have hb3p := of_decide_eq_false hb3
            refine CS.skip ?_
            refine thenC_n ?_
            refine CS.seq ?_
            refine CS.region ?_
            first | (refine RS.q rfl (QO.loadB ty82 (by rfl) (by repeat (first | exact List.Mem.head _ | refine List.Mem.tail _ ?_)) (by rfl)) ?_) | (refine RS.q rfl (QO.loadA ty82 (by rfl) (by repeat (first | exact List.Mem.head _ | refine List.Mem.tail _ ?_)) (by rfl) (by rfl)) ?_) | (refine RS.q rfl (QO.loadOA ty82 (by rfl) (by assumption) (by rfl)) ?_)
            first | refine RS.storeB ty82 (by rfl) (by rfl) (by rfl) (by rfl) (by rfl) (by repeat (first | exact Upd.head | apply Upd.tail)) (by rfl) ?_ | refine RS.storeP ty82 (by rfl) (by rfl) (by rfl) (by rfl) (by rfl) (by repeat (first | exact Upd.head | apply Upd.tail)) (by rfl) ?_
            refine RS.q rfl (QO.assign) ?_
            refine RS.nil ?_
            refine thenC_n ?_
            refine CS.ret ?_
            refine blockC_r ?_
            refine thenC_r ?_
            refine loopQ_r ?_
            refine blockC_r ?_
            refine thenC_r ?_
            refine retQ.mk (H' := []) (.inr rfl) (RVs.cellA ty82 (by rfl) (by repeat (first | exact List.Mem.head _ | refine List.Mem.tail _ ?_)) (by rfl) (RVs.tmp (by rfl) RVs.nil)) (List.nil_sublist _) ?_
            exact ⟨at_cut hkl hfs he (by omega) (by omega), rfl⟩
    · have hb0p := of_decide_eq_false hb0
      refine CS.exit ?_
      refine thenC_x ?_
      refine loopQ_x ?_
      refine blockC_x ?_
      refine thenC_n ?_
      refine CS.seq ?_
      refine CS.region ?_
      refine RS.q rfl (QO.build ty82 pl82 (by rfl)) ?_
      first | refine RS.storeB ty82 (by rfl) (by rfl) (by rfl) (by rfl) (by rfl) (by repeat (first | exact Upd.head | apply Upd.tail)) (by rfl) ?_ | refine RS.storeP ty82 (by rfl) (by rfl) (by rfl) (by rfl) (by rfl) (by repeat (first | exact Upd.head | apply Upd.tail)) (by rfl) ?_
      refine RS.q rfl (QO.assign) ?_
      refine RS.nil ?_
      refine thenC_n ?_
      refine CS.ret ?_
      refine retQ.mk (H' := []) (.inr rfl) (RVs.cellA ty82 (by rfl) (by repeat (first | exact List.Mem.head _ | refine List.Mem.tail _ ?_)) (by rfl) (RVs.tmp (by rfl) RVs.nil)) (List.nil_sublist _) ?_
      exact ⟨at_none (by omega) hfs, rfl⟩

set_option maxHeartbeats 8000000 in
set_option maxRecDepth 100000 in
theorem ends1 (t : List UInt8) (rate : Int) (A : Option Addr) (n c : Nat) (l : List Ev) (W : World) (hl : l.length = n) (hES : ES W A l) (hE : edE t rate l = 0) (hm : n ≤ maxLen) : Fn_ Tryd.prog 96 #[.agg #[sv t, iv rate, .slice A n c]] W (fun v H => v = iv (endB l l.length) ∧ H = []) := by
  subst hl
  unfold maxLen at hm
  have hok4 := (edE_ok hE).2.2.2
  refine Fn_.intro Tryd.func96 rfl rfl (by rfl) ?_
  refine CS.seq ?_
  refine CS.region ?_
  refine RS.box rfl (by rfl) (by rfl) ?_
  intro g1
  refine RS.q rfl (QO.assign) ?_
  refine RS.nil ?_
  refine thenC_n ?_
  refine CS.seq ?_
  refine CS.seq ?_
  refine CS.region ?_
  refine RS.q rfl (QO.fieldAddr fo52_2 (by rfl)) ?_
  first | (refine RS.q rfl (QO.load ty50 (by rfl) (by repeat (first | exact List.Mem.head _ | refine List.Mem.tail _ ?_)) (by rfl)) ?_) | (refine RS.q rfl (QO.loadO ty50 (by rfl) (by assumption)) ?_) | (refine RS.q rfl (QO.load ty50 (by rfl) (by repeat (first | exact List.Mem.head _ | refine List.Mem.tail _ ?_)) (by assumption)) ?_)
  refine RS.q rfl (QO.lenS Tryd.underlying50 (by rfl)) ?_
  refine RS.q rfl (QO.eql (by rfl) (by rfl)) ?_
  refine RS.nil ?_
  refine thenC_n ?_
  refine CS.cond (by rfl) (fun hb0 => ?_) (fun hb0 => ?_)
  · have hb0p := eq_of_beq hb0
    refine CS.seq ?_
    refine CS.region ?_
    refine RS.q rfl (QO.assign) ?_
    refine RS.nil ?_
    refine thenC_n ?_
    refine CS.ret ?_
    refine thenC_r ?_
    refine retQ.mk (H' := []) (.inr rfl) (RVs.tmp (by rfl) RVs.nil) (List.nil_sublist _) ?_
    exact ⟨congrArg iv (show 0 = endB l l.length from (if_pos (by omega)).symm), rfl⟩
  · have hb0p := ne_of_beq_false hb0
    refine CS.skip ?_
    refine thenC_n ?_
    refine CS.seq ?_
    refine CS.region ?_
    have hkl : l.length - 1 < l.length := by omega
    have hx1 := hES.at_ hkl
    obtain ⟨bA, oA, hA0, hcell⟩ := hx1
    subst hA0
    have hok := evE1_ok (hok4 _ hkl)
    have hx2 : ∃ e, l.getD (l.length - 1) default = e := ⟨_, rfl⟩
    obtain ⟨e, he⟩ := hx2
    rw [he] at hcell hok
    refine RS.q rfl (QO.fieldAddr fo52_2 (by rfl)) ?_
    first | (refine RS.q rfl (QO.load ty50 (by rfl) (by repeat (first | exact List.Mem.head _ | refine List.Mem.tail _ ?_)) (by rfl)) ?_) | (refine RS.q rfl (QO.loadO ty50 (by rfl) (by assumption)) ?_) | (refine RS.q rfl (QO.load ty50 (by rfl) (by repeat (first | exact List.Mem.head _ | refine List.Mem.tail _ ?_)) (by assumption)) ?_)
    refine RS.q rfl (QO.fieldAddr fo52_2 (by rfl)) ?_
    first | (refine RS.q rfl (QO.load ty50 (by rfl) (by repeat (first | exact List.Mem.head _ | refine List.Mem.tail _ ?_)) (by rfl)) ?_) | (refine RS.q rfl (QO.loadO ty50 (by rfl) (by assumption)) ?_) | (refine RS.q rfl (QO.load ty50 (by rfl) (by repeat (first | exact List.Mem.head _ | refine List.Mem.tail _ ?_)) (by assumption)) ?_)
    refine RS.q rfl (QO.lenS Tryd.underlying50 (by rfl)) ?_
    first | (refine RS.qv rfl (QO.sub (by rfl) (by rfl) (by omega) (by omega)) (congrArg iv (show (l.length : Int) - 1 = ((l.length - 1 : Nat) : Int) by omega)) ?_) | (refine RS.qv rfl (QO.ibin (by rfl) (by rfl) trivial) (congrArg iv (show (l.length : Int) - 1 = ((l.length - 1 : Nat) : Int) by omega)) ?_)
    refine RS.q rfl (QO.idx Tryd.underlying50 ty134 (by rfl) (by rfl) (by omega) (by omega)) ?_
    refine RS.q rfl (QO.loadOA ty134 (vs := evc e) (by rfl) hcell (by rfl)) ?_
    refine RS.alloc rfl ty134 ?_
    intro g3
    first | refine RS.storeB ty134 (by rfl) (by rfl) (by rfl) (by rfl) (by rfl) (by repeat (first | exact Upd.head | apply Upd.tail)) (by rfl) ?_ | refine RS.storeP ty134 (by rfl) (by rfl) (by rfl) (by rfl) (by rfl) (by repeat (first | exact Upd.head | apply Upd.tail)) (by rfl) ?_
    refine RS.nil ?_
    refine thenC_n ?_
    refine CS.seq ?_
    refine CS.draw 6 rfl (by kernel_rfl) (by kernel_rfl) ?_
    refine RT.take (i := 0) rfl (by kernel_rfl) rfl (QO.fieldAddr fo134_5 (by rfl)) ?_
    first | (refine RT.take (i := 1) rfl (by kernel_rfl) rfl (QO.load ty3 (by rfl) (by repeat (first | exact List.Mem.head _ | refine List.Mem.tail _ ?_)) (by rfl)) ?_) | (refine RT.take (i := 1) rfl (by kernel_rfl) rfl (QO.loadO ty3 (by rfl) (by assumption)) ?_) | (refine RT.take (i := 1) rfl (by kernel_rfl) rfl (QO.load ty3 (by rfl) (by repeat (first | exact List.Mem.head _ | refine List.Mem.tail _ ?_)) (by assumption)) ?_)
    first | (refine RT.take (i := 2) rfl (by kernel_rfl) rfl (QO.loadB ty134 (by rfl) (by repeat (first | exact List.Mem.head _ | refine List.Mem.tail _ ?_)) (by rfl)) ?_) | (refine RT.take (i := 2) rfl (by kernel_rfl) rfl (QO.loadA ty134 (by rfl) (by repeat (first | exact List.Mem.head _ | refine List.Mem.tail _ ?_)) (by rfl) (by rfl)) ?_) | (refine RT.take (i := 2) rfl (by kernel_rfl) rfl (QO.loadOA ty134 (by rfl) (by assumption) (by rfl)) ?_)
    refine RT.one (i := 3) (by kernel_rfl) rfl rfl ?_
    refine RS.call rfl (by rfl) ok97 (by rfl) (fun w ho => long_ e _ (by omega)) ?_
    rintro _ _ ⟨rfl, rfl⟩
    refine RS.nil ⟨(by repeat (first | exact List.Sublist.refl _ | exact List.nil_sublist _ | refine List.Sublist.cons_cons _ ?_ | refine List.Sublist.cons _ ?_ | exact Sbp.refl | exact Sbp.nil | refine Sbp.cons (by repeat (first | exact Rem.head | apply Rem.tail)) ?_ | exact Sbp.app | refine Sbp.skip ?_)), ?_⟩
    first | (refine RT.take (i := 4) rfl (by kernel_rfl) rfl (QO.add (by rfl) (by rfl) (by omega) (by omega)) ?_) | (refine RT.take (i := 4) rfl (by kernel_rfl) rfl (QO.ibin (by rfl) (by rfl) trivial) ?_)
    refine RT.take (i := 5) rfl (by kernel_rfl) rfl (QO.assign) ?_
    refine RT.done (by kernel_rfl) ?_
    refine thenC_n ?_
    refine CS.ret ?_
    refine retQ.mk (H' := []) (.inr rfl) (RVs.tmp (by rfl) RVs.nil) (List.nil_sublist _) ?_
    exact ⟨congrArg iv (show e.at_ + (e.out - e.inn) = endB l l.length by unfold endB; rw [if_neg (by omega), he]; rfl), rfl⟩

end Go.Proofs.YtapcgokcfmklbaaDoor
