/-
  Part 5 of what the proof leans on (F1, Trk, F2, Mut, Any2, Stb, Pul, Stb2, Pls). Conditions: as each theorem says.
-/
import Derived.Test.YtapcgokcfmklbaaDoorY4
namespace Go.Proofs.YtapcgokcfmklbaaDoor
open Go Go.Proofs Go.RowKit

theorem ty82 : tyChk Tryd.prog 82 = some ([.int .i64 0, .string ByteArray.empty, .int .i64 0, .string ByteArray.empty, .int .i64 0, .float .f32 0], true, 64) := by kernel_rfl
theorem fo82_3 : fldOff Tryd.prog 82 3 = some (3, 9) := by kernel_rfl
theorem fo82_4 : fldOff Tryd.prog 82 4 = some (4, 3) := by kernel_rfl
theorem fo82_5 : fldOff Tryd.prog 82 5 = some (5, 36) := by kernel_rfl
theorem pl82 : places Tryd.prog 82 = some #[(0, 1), (1, 1), (2, 1), (3, 1), (4, 1), (5, 1)] := by kernel_rfl

set_option maxHeartbeats 8000000 in
set_option maxRecDepth 100000 in
theorem at1 (t : List UInt8) (rate : Int) (A : Option Addr) (n c : Nat) (l : List Ev) (f : Int) (W : World) (hl : l.length = n) (hES : ES W A l) (hE : edE t rate l = 0) (hm : n ≤ maxLen) : Fn_ Tryd.prog 100 #[.agg #[sv t, iv rate, .slice A n c], iv f] W (fun v H => v = atV (atR l f) ∧ H = []) := by
  subst hl
  unfold maxLen at hm
  have hok4 := (edE_ok hE).2.2.2
  refine Fn_.intro Tryd.func100 rfl rfl (by rfl) ?_
  refine CS.seq ?_
  refine CS.region ?_
  refine RS.box rfl (by rfl) (by rfl) ?_
  intro g2
  refine RS.alloc rfl ty82 ?_
  intro g4
  refine RS.q rfl (QO.assign) ?_
  refine RS.nil ?_
  refine thenC_n ?_
  refine CS.seq ?_
  refine CS.seq ?_
  refine CS.region ?_
  refine RS.q rfl (QO.fieldAddr fo52_2 (by rfl)) ?_
  first | (refine RS.q rfl (QO.load ty50 (by rfl) (by repeat (first | exact List.Mem.head _ | refine List.Mem.tail _ ?_)) (by rfl)) ?_) | (refine RS.q rfl (QO.loadO ty50 (by rfl) (by assumption)) ?_) | (refine RS.q rfl (QO.load ty50 (by rfl) (by repeat (first | exact List.Mem.head _ | refine List.Mem.tail _ ?_)) (by assumption)) ?_)
  refine RS.q rfl (QO.lenS Tryd.underlying50 (by rfl)) ?_
  refine RS.q rfl (QO.move) ?_
  refine RS.nil ?_
  refine thenC_n ?_
  refine CS.block ?_
  refine CS.loop (X := Nat) (5 :: 6 :: 7 :: 8 :: 9 :: 10 :: 14 :: 15 :: 16 :: 17 :: 18 :: 19 :: 20 :: 21 :: 22 :: 23 :: 24 :: 25 :: 26 :: 27 :: 28 :: 29 :: 30 :: 31 :: 32 :: 33 :: 34 :: 35 :: 36 :: 37 :: 38 :: 39 :: 40 :: 41 :: 42 :: 43 :: 44 :: 45 :: 46 :: 47 :: 48 :: 49 :: 50 :: 51 :: 52 :: 53 :: 54 :: 55 :: 56 :: 57 :: 58 :: 59 :: 60 :: 61 :: 62 :: 63 :: 64 :: 65 :: 66 :: 67 :: 68 :: 69 :: 70 :: 71 :: 72 :: 73 :: 74 :: 75 :: 76 :: 77 :: 78 :: 79 :: 80 :: 81 :: 82 :: 83 :: []) (fun k => [(14, iv (k : Int))]) (fun k => [⟨g2, 52, [sv t, iv rate, .slice A l.length c]⟩, ⟨g4, 82, [iv 0, sv [], iv 0, sv [], iv 0, flt 0]⟩]) (fun k => k ≤ l.length ∧ fst l f k = none) (fun k => l.length - k) 0 ⟨Nat.zero_le _, rfl⟩ ?_ ?_ ?_
  · exact (by repeat (first | exact kn_nil | refine kn_cons (by rfl) ?_))
  · exact (by repeat (first | exact List.Sublist.refl _ | exact List.nil_sublist _ | refine List.Sublist.cons_cons _ ?_ | refine List.Sublist.cons _ ?_ | exact Sbp.refl | exact Sbp.nil | refine Sbp.cons (by repeat (first | exact Rem.head | apply Rem.tail)) ?_ | exact Sbp.app | refine Sbp.skip ?_))
  · intro k gj2 hz
    obtain ⟨hk, hfs⟩ := hz
    refine CS.seq ?_
    refine CS.region ?_
    refine RS.q rfl (QO.lss (by rfl) (by rfl)) ?_
    refine RS.nil ?_
    refine thenC_n ?_
    refine CS.seq ?_
    refine CS.cond (by rfl) (fun hb0 => ?_) (fun hb0 => ?_)
    · have hb0p := of_decide_eq_true hb0
      refine CS.skip ?_
      refine thenC_n ?_
      refine CS.seq ?_
      refine CS.block ?_
      refine CS.seq ?_
      refine CS.region ?_
      have hkl : k < l.length := by omega
      have hx1 := hES.at_ hkl
      obtain ⟨bA, oA, hA0, hcell⟩ := hx1
      subst hA0
      have hok := evE1_ok (hok4 k hkl)
      have hx2 : ∃ e, l.getD k default = e := ⟨_, rfl⟩
      obtain ⟨e, he⟩ := hx2
      rw [he] at hcell hok
      refine RS.q rfl (QO.move) ?_
      refine RS.q rfl (QO.idx Tryd.underlying50 ty134 (by rfl) (by rfl) (by omega) (by omega)) ?_
      refine RS.q rfl (QO.loadOA ty134 (vs := evc e) (by rfl) hcell (by rfl)) ?_
      refine RS.alloc rfl ty134 ?_
      intro g7
      refine RS.q rfl (QO.assign) ?_
      first | refine RS.storeB ty134 (by rfl) (by rfl) (by rfl) (by rfl) (by rfl) (by repeat (first | exact Upd.head | apply Upd.tail)) (by rfl) ?_ | refine RS.storeP ty134 (by rfl) (by rfl) (by rfl) (by rfl) (by rfl) (by repeat (first | exact Upd.head | apply Upd.tail)) (by rfl) ?_
      refine RS.nil ?_
      refine thenC_n ?_
      refine CS.seq ?_
      refine CS.seq ?_
      refine CS.draw 13 rfl (by kernel_rfl) (by kernel_rfl) ?_
      refine RT.take (i := 0) rfl (by kernel_rfl) rfl (QO.move) ?_
      refine RT.take (i := 1) rfl (by kernel_rfl) rfl (QO.fieldAddr fo134_5 (by rfl)) ?_
      first | (refine RT.take (i := 2) rfl (by kernel_rfl) rfl (QO.load ty3 (by rfl) (by repeat (first | exact List.Mem.head _ | refine List.Mem.tail _ ?_)) (by rfl)) ?_) | (refine RT.take (i := 2) rfl (by kernel_rfl) rfl (QO.loadO ty3 (by rfl) (by assumption)) ?_) | (refine RT.take (i := 2) rfl (by kernel_rfl) rfl (QO.load ty3 (by rfl) (by repeat (first | exact List.Mem.head _ | refine List.Mem.tail _ ?_)) (by assumption)) ?_)
      refine RT.take (i := 3) rfl (by kernel_rfl) rfl (QO.lss (by rfl) (by rfl)) ?_
      refine RT.take (i := 4) rfl (by kernel_rfl) rfl (QO.move) ?_
      refine RT.split (dj := 23) (by rfl) (fun hb1 => ?_) (fun hb1 => ?_)
      · have hb1p := of_decide_eq_true hb1
        refine RT.takeOff (i := 5) (dj := 23) rfl rfl (.inl (congrArg Value.bool hb1)) (fun _ => rfl) (by kernel_rfl) rfl ?_
        refine RT.takeOff (i := 6) (dj := 23) rfl rfl (.inl (congrArg Value.bool hb1)) (fun _ => rfl) (by kernel_rfl) rfl ?_
        refine RT.takeOff (i := 7) (dj := 23) rfl rfl (.inl (congrArg Value.bool hb1)) (fun _ => rfl) (by kernel_rfl) rfl ?_
        refine RT.takeOff (i := 8) (dj := 23) rfl rfl (.inl (congrArg Value.bool hb1)) (fun _ => rfl) (by kernel_rfl) rfl ?_
        refine RT.one (i := 9) (by kernel_rfl) rfl rfl ?_
        refine RS.off (dj := 23) rfl (.inl (congrArg Value.bool hb1)) (fun _ => rfl) rfl ?_
        refine RS.nil ⟨(by repeat (first | exact List.Sublist.refl _ | exact List.nil_sublist _ | refine List.Sublist.cons_cons _ ?_ | refine List.Sublist.cons _ ?_ | exact Sbp.refl | exact Sbp.nil | refine Sbp.cons (by repeat (first | exact Rem.head | apply Rem.tail)) ?_ | exact Sbp.app | refine Sbp.skip ?_)), ?_⟩
        refine RT.takeOff (i := 10) (dj := 23) rfl rfl (.inl (congrArg Value.bool hb1)) (fun _ => rfl) (by kernel_rfl) rfl ?_
        refine RT.takeOff (i := 11) (dj := 23) rfl rfl (.inl (congrArg Value.bool hb1)) (fun _ => rfl) (by kernel_rfl) rfl ?_
        refine RT.take (i := 12) rfl (by kernel_rfl) rfl (QO.pickT (by rfl) hb1 (by rfl)) ?_
        refine RT.done (by kernel_rfl) ?_
        refine thenC_n ?_
        refine CS.condT (by rfl) rfl ?_
        refine CS.exit ?_
        refine thenC_x ?_
        refine blockC_x ?_
        refine thenC_n ?_
        refine CS.region ?_
        first | (refine RS.q rfl (QO.add (by rfl) (by rfl) (by omega) (by omega)) ?_) | (refine RS.q rfl (QO.ibin (by rfl) (by rfl) trivial) ?_)
        refine RS.q rfl (QO.move) ?_
        refine RS.nil ?_
        refine loopQ_n (by intro t ht; repeat (first | with_reducible exact rfl | exact frame_puts ht (frame_mix ht) _ rfl | (refine frame_put rfl ht ?_) | (refine frame_puts ht ?_ _ rfl) | exact frame_mix ht | (refine frame_mix2 rfl ht ?_) | exact rfl)) ?_
        exact ⟨k + 1, ⟨by omega, fst_no hfs (by rw [he]; unfold evEnd; omega)⟩, by omega, (by repeat (first | exact kn_nil | refine kn_cons (by rfl) ?_)), (by repeat (first | exact List.Sublist.refl _ | exact List.nil_sublist _ | refine List.Sublist.cons_cons _ ?_ | refine List.Sublist.cons _ ?_ | exact Sbp.refl | exact Sbp.nil | refine Sbp.cons (by repeat (first | exact Rem.head | apply Rem.tail)) ?_ | exact Sbp.app | refine Sbp.skip ?_))⟩
      · have hb1p := of_decide_eq_false hb1
        refine RT.takeOn (i := 5) (dj := 23) rfl rfl (congrArg Value.bool hb1) (by kernel_rfl) rfl (QO.move) ?_
        refine RT.takeOn (i := 6) (dj := 23) rfl rfl (congrArg Value.bool hb1) (by kernel_rfl) rfl (QO.fieldAddr fo134_5 (by rfl)) ?_
        first | (refine RT.takeOn (i := 7) (dj := 23) rfl rfl (congrArg Value.bool hb1) (by kernel_rfl) rfl (QO.load ty3 (by rfl) (by repeat (first | exact List.Mem.head _ | refine List.Mem.tail _ ?_)) (by rfl)) ?_) | (refine RT.takeOn (i := 7) (dj := 23) rfl rfl (congrArg Value.bool hb1) (by kernel_rfl) rfl (QO.loadO ty3 (by rfl) (by assumption)) ?_) | (refine RT.takeOn (i := 7) (dj := 23) rfl rfl (congrArg Value.bool hb1) (by kernel_rfl) rfl (QO.load ty3 (by rfl) (by repeat (first | exact List.Mem.head _ | refine List.Mem.tail _ ?_)) (by assumption)) ?_)
        first | (refine RT.takeOn (i := 8) (dj := 23) rfl rfl (congrArg Value.bool hb1) (by kernel_rfl) rfl (QO.loadB ty134 (by rfl) (by repeat (first | exact List.Mem.head _ | refine List.Mem.tail _ ?_)) (by rfl)) ?_) | (refine RT.takeOn (i := 8) (dj := 23) rfl rfl (congrArg Value.bool hb1) (by kernel_rfl) rfl (QO.loadA ty134 (by rfl) (by repeat (first | exact List.Mem.head _ | refine List.Mem.tail _ ?_)) (by rfl) (by rfl)) ?_) | (refine RT.takeOn (i := 8) (dj := 23) rfl rfl (congrArg Value.bool hb1) (by kernel_rfl) rfl (QO.loadOA ty134 (by rfl) (by assumption) (by rfl)) ?_)
        refine RT.one (i := 9) (by kernel_rfl) rfl rfl ?_
        refine RS.on (dj := 23) rfl (congrArg Value.bool hb1) ?_
        refine RS.call rfl (by rfl) ok97 (by rfl) (fun w ho => long_ e _ (by omega)) ?_
        rintro _ _ ⟨rfl, rfl⟩
        refine RS.nil ⟨(by repeat (first | exact List.Sublist.refl _ | exact List.nil_sublist _ | refine List.Sublist.cons_cons _ ?_ | refine List.Sublist.cons _ ?_ | exact Sbp.refl | exact Sbp.nil | refine Sbp.cons (by repeat (first | exact Rem.head | apply Rem.tail)) ?_ | exact Sbp.app | refine Sbp.skip ?_)), ?_⟩
        first | (refine RT.takeOn (i := 10) (dj := 23) rfl rfl (congrArg Value.bool hb1) (by kernel_rfl) rfl (QO.add (by rfl) (by rfl) (by omega) (by omega)) ?_) | (refine RT.takeOn (i := 10) (dj := 23) rfl rfl (congrArg Value.bool hb1) (by kernel_rfl) rfl (QO.ibin (by rfl) (by rfl) trivial) ?_)
        refine RT.takeOn (i := 11) (dj := 23) rfl rfl (congrArg Value.bool hb1) (by kernel_rfl) rfl (QO.geq (by rfl) (by rfl)) ?_
        refine RT.take (i := 12) rfl (by kernel_rfl) rfl (QO.pickF (by rfl) hb1 (by rfl)) ?_
        refine RT.done (by kernel_rfl) ?_
        refine thenC_n ?_
        refine CS.cond (by rfl) (fun hb2 => ?_) (fun hb2 => ?_)
        · have hb2p := of_decide_eq_true hb2
          refine CS.exit ?_
          refine thenC_x ?_
          refine blockC_x ?_
          refine thenC_n ?_
          refine CS.region ?_
          first | (refine RS.q rfl (QO.add (by rfl) (by rfl) (by omega) (by omega)) ?_) | (refine RS.q rfl (QO.ibin (by rfl) (by rfl) trivial) ?_)
          refine RS.q rfl (QO.move) ?_
          refine RS.nil ?_
          refine loopQ_n (by intro t ht; repeat (first | with_reducible exact rfl | exact frame_puts ht (frame_mix ht) _ rfl | (refine frame_put rfl ht ?_) | (refine frame_puts ht ?_ _ rfl) | exact frame_mix ht | (refine frame_mix2 rfl ht ?_) | exact rfl)) ?_
          exact ⟨k + 1, ⟨by omega, fst_no hfs (by rw [he]; unfold evEnd; omega)⟩, by omega, (by repeat (first | exact kn_nil | refine kn_cons (by rfl) ?_)), (by repeat (first | exact List.Sublist.refl _ | exact List.nil_sublist _ | refine List.Sublist.cons_cons _ ?_ | refine List.Sublist.cons _ ?_ | exact Sbp.refl | exact Sbp.nil | refine Sbp.cons (by repeat (first | exact Rem.head | apply Rem.tail)) ?_ | exact Sbp.app | refine Sbp.skip ?_))⟩
        · have hb2p := of_decide_eq_false hb2
          refine CS.skip ?_
          refine thenC_n ?_
          refine CS.seq ?_
          refine CS.region ?_
          refine RS.q rfl (QO.move) ?_
          refine RS.q rfl (QO.fieldAddr fo134_0 (by rfl)) ?_
          first | (refine RS.q rfl (QO.load ty9 (by rfl) (by repeat (first | exact List.Mem.head _ | refine List.Mem.tail _ ?_)) (by rfl)) ?_) | (refine RS.q rfl (QO.loadO ty9 (by rfl) (by assumption)) ?_) | (refine RS.q rfl (QO.load ty9 (by rfl) (by repeat (first | exact List.Mem.head _ | refine List.Mem.tail _ ?_)) (by assumption)) ?_)
          refine RS.q rfl (QO.fieldAddr fo134_3 (by rfl)) ?_
          first | (refine RS.q rfl (QO.load ty3 (by rfl) (by repeat (first | exact List.Mem.head _ | refine List.Mem.tail _ ?_)) (by rfl)) ?_) | (refine RS.q rfl (QO.loadO ty3 (by rfl) (by assumption)) ?_) | (refine RS.q rfl (QO.load ty3 (by rfl) (by repeat (first | exact List.Mem.head _ | refine List.Mem.tail _ ?_)) (by assumption)) ?_)
          refine RS.q rfl (QO.move) ?_
          first | (refine RS.q rfl (QO.add (by rfl) (by rfl) (by omega) (by omega)) ?_) | (refine RS.q rfl (QO.ibin (by rfl) (by rfl) trivial) ?_)
          refine RS.q rfl (QO.fieldAddr fo134_5 (by rfl)) ?_
          first | (refine RS.q rfl (QO.load ty3 (by rfl) (by repeat (first | exact List.Mem.head _ | refine List.Mem.tail _ ?_)) (by rfl)) ?_) | (refine RS.q rfl (QO.loadO ty3 (by rfl) (by assumption)) ?_) | (refine RS.q rfl (QO.load ty3 (by rfl) (by repeat (first | exact List.Mem.head _ | refine List.Mem.tail _ ?_)) (by assumption)) ?_)
          first | (refine RS.q rfl (QO.sub (by rfl) (by rfl) (by omega) (by omega)) ?_) | (refine RS.q rfl (QO.ibin (by rfl) (by rfl) trivial) ?_)
          refine RS.q rfl (QO.build ty82 pl82 (by rfl)) ?_
          refine RS.alloc rfl ty82 ?_
          intro g8
          first | refine RS.storeB ty82 (by rfl) (by rfl) (by rfl) (by rfl) (by rfl) (by repeat (first | exact Upd.head | apply Upd.tail)) (by rfl) ?_ | refine RS.storeP ty82 (by rfl) (by rfl) (by rfl) (by rfl) (by rfl) (by repeat (first | exact Upd.head | apply Upd.tail)) (by rfl) ?_
          refine RS.nil ?_
          refine thenC_n ?_
          refine CS.seq ?_
          refine CS.seq ?_
          refine CS.region ?_
          refine RS.q rfl (QO.move) ?_
          refine RS.q rfl (QO.fieldAddr fo134_5 (by rfl)) ?_
          first | (refine RS.q rfl (QO.load ty3 (by rfl) (by repeat (first | exact List.Mem.head _ | refine List.Mem.tail _ ?_)) (by rfl)) ?_) | (refine RS.q rfl (QO.loadO ty3 (by rfl) (by assumption)) ?_) | (refine RS.q rfl (QO.load ty3 (by rfl) (by repeat (first | exact List.Mem.head _ | refine List.Mem.tail _ ?_)) (by assumption)) ?_)
          first | (refine RS.q rfl (QO.sub (by rfl) (by rfl) (by omega) (by omega)) ?_) | (refine RS.q rfl (QO.ibin (by rfl) (by rfl) trivial) ?_)
          refine RS.q rfl (QO.assign) ?_
          refine RS.nil ?_
          refine thenC_n ?_
          refine CS.seq ?_
          refine CS.region ?_
          refine RS.q rfl (QO.fieldAddr fo134_1 (by rfl)) ?_
          first | (refine RS.q rfl (QO.load ty3 (by rfl) (by repeat (first | exact List.Mem.head _ | refine List.Mem.tail _ ?_)) (by rfl)) ?_) | (refine RS.q rfl (QO.loadO ty3 (by rfl) (by assumption)) ?_) | (refine RS.q rfl (QO.load ty3 (by rfl) (by repeat (first | exact List.Mem.head _ | refine List.Mem.tail _ ?_)) (by assumption)) ?_)
          refine RS.q rfl (QO.eql (by rfl) (by rfl)) ?_
          refine RS.q rfl (QO.move) ?_
          refine RS.split (dj := 50) (by rfl) (fun hb3 => ?_) (fun hb3 => ?_)
          · have hb3p := eq_of_beq hb3
            refine RS.on (dj := 50) rfl (congrArg Value.bool hb3) ?_
            refine RS.q rfl (QO.move) ?_
            refine RS.on (dj := 50) rfl (congrArg Value.bool hb3) ?_
            refine RS.q rfl (QO.fieldAddr fo134_2 (by rfl)) ?_
            refine RS.on (dj := 50) rfl (congrArg Value.bool hb3) ?_
            first | (refine RS.q rfl (QO.load ty3 (by rfl) (by repeat (first | exact List.Mem.head _ | refine List.Mem.tail _ ?_)) (by rfl)) ?_) | (refine RS.q rfl (QO.loadO ty3 (by rfl) (by assumption)) ?_) | (refine RS.q rfl (QO.load ty3 (by rfl) (by repeat (first | exact List.Mem.head _ | refine List.Mem.tail _ ?_)) (by assumption)) ?_)
            refine RS.on (dj := 50) rfl (congrArg Value.bool hb3) ?_
            refine RS.q rfl (QO.lss (by rfl) (by rfl)) ?_
            refine RS.q rfl (QO.pickT (by rfl) hb3 (by rfl)) ?_
            refine RS.nil ?_
            refine thenC_n ?_
            refine CS.cond (by rfl) (fun hb4 => ?_) (fun hb4 => ?_)
            · have hb4p := of_decide_eq_true hb4
              refine CS.seq ?_
              refine CS.region ?_
              have hx3 := hES.at_ (show k - 1 < l.length by omega)
              obtain ⟨bA2, oA2, hA2, hcel2⟩ := hx3
              obtain ⟨rfl, rfl⟩ : bA = bA2 ∧ oA = oA2 := by injection hA2 with hA2; injection hA2 with a1 a2; exact ⟨a1, a2⟩
              have hokp := evE1_ok (hok4 (k - 1) (by omega))
              have hx4 : ∃ p, l.getD (k - 1) default = p := ⟨_, rfl⟩
              obtain ⟨p, hp⟩ := hx4
              rw [hp] at hcel2 hokp
              refine RS.q rfl (QO.fieldAddr fo52_2 (by rfl)) ?_
              first | (refine RS.q rfl (QO.load ty50 (by rfl) (by repeat (first | exact List.Mem.head _ | refine List.Mem.tail _ ?_)) (by rfl)) ?_) | (refine RS.q rfl (QO.loadO ty50 (by rfl) (by assumption)) ?_) | (refine RS.q rfl (QO.load ty50 (by rfl) (by repeat (first | exact List.Mem.head _ | refine List.Mem.tail _ ?_)) (by assumption)) ?_)
              refine RS.q rfl (QO.move) ?_
              first | (refine RS.qv rfl (QO.sub (by rfl) (by rfl) (by omega) (by omega)) (congrArg iv (show (k : Int) - 1 = ((k - 1 : Nat) : Int) by omega)) ?_) | (refine RS.qv rfl (QO.ibin (by rfl) (by rfl) trivial) (congrArg iv (show (k : Int) - 1 = ((k - 1 : Nat) : Int) by omega)) ?_)
              refine RS.q rfl (QO.idx Tryd.underlying50 ty134 (by rfl) (by rfl) (by omega) (by omega)) ?_
              refine RS.q rfl (QO.loadOA ty134 (vs := evc p) (by rfl) hcel2 (by rfl)) ?_
              refine RS.alloc rfl ty134 ?_
              intro g10
              first | refine RS.storeB ty134 (by rfl) (by rfl) (by rfl) (by rfl) (by rfl) (by repeat (first | exact Upd.head | apply Upd.tail)) (by rfl) ?_ | refine RS.storeP ty134 (by rfl) (by rfl) (by rfl) (by rfl) (by rfl) (by repeat (first | exact Upd.head | apply Upd.tail)) (by rfl) ?_
              refine RS.nil ?_
              refine thenC_n ?_
              refine CS.seq ?_
              refine CS.drawS (HS := [⟨g10, 134, [sv p.reel, iv p.kind, iv p.len, iv p.inn, iv p.out, iv p.at_]⟩]) 12 (by repeat (first | exact List.Sublist.refl _ | exact List.nil_sublist _ | refine List.Sublist.cons_cons _ ?_ | refine List.Sublist.cons _ ?_ | exact Sbp.refl | exact Sbp.nil | refine Sbp.cons (by repeat (first | exact Rem.head | apply Rem.tail)) ?_ | exact Sbp.app | refine Sbp.skip ?_)) rfl (by kernel_rfl) (by kernel_rfl) ?_
              refine RT.take (i := 0) rfl (by kernel_rfl) rfl (QO.fieldAddr fo134_0 (by rfl)) ?_
              first | (refine RT.take (i := 1) rfl (by kernel_rfl) rfl (QO.load ty9 (by rfl) (by repeat (first | exact List.Mem.head _ | refine List.Mem.tail _ ?_)) (by rfl)) ?_) | (refine RT.take (i := 1) rfl (by kernel_rfl) rfl (QO.loadO ty9 (by rfl) (by assumption)) ?_) | (refine RT.take (i := 1) rfl (by kernel_rfl) rfl (QO.load ty9 (by rfl) (by repeat (first | exact List.Mem.head _ | refine List.Mem.tail _ ?_)) (by assumption)) ?_)
              refine RT.take (i := 2) rfl (by kernel_rfl) rfl (QO.fieldAddr fo134_3 (by rfl)) ?_
              first | (refine RT.take (i := 3) rfl (by kernel_rfl) rfl (QO.load ty3 (by rfl) (by repeat (first | exact List.Mem.head _ | refine List.Mem.tail _ ?_)) (by rfl)) ?_) | (refine RT.take (i := 3) rfl (by kernel_rfl) rfl (QO.loadO ty3 (by rfl) (by assumption)) ?_) | (refine RT.take (i := 3) rfl (by kernel_rfl) rfl (QO.load ty3 (by rfl) (by repeat (first | exact List.Mem.head _ | refine List.Mem.tail _ ?_)) (by assumption)) ?_)
              refine RT.take (i := 4) rfl (by kernel_rfl) rfl (QO.move) ?_
              first | (refine RT.take (i := 5) rfl (by kernel_rfl) rfl (QO.add (by rfl) (by rfl) (by omega) (by omega)) ?_) | (refine RT.take (i := 5) rfl (by kernel_rfl) rfl (QO.ibin (by rfl) (by rfl) trivial) ?_)
              refine RT.take (i := 6) rfl (by kernel_rfl) rfl (QO.fieldAddr fo134_5 (by rfl)) ?_
              first | (refine RT.take (i := 7) rfl (by kernel_rfl) rfl (QO.load ty3 (by rfl) (by repeat (first | exact List.Mem.head _ | refine List.Mem.tail _ ?_)) (by rfl)) ?_) | (refine RT.take (i := 7) rfl (by kernel_rfl) rfl (QO.loadO ty3 (by rfl) (by assumption)) ?_) | (refine RT.take (i := 7) rfl (by kernel_rfl) rfl (QO.load ty3 (by rfl) (by repeat (first | exact List.Mem.head _ | refine List.Mem.tail _ ?_)) (by assumption)) ?_)
              first | (refine RT.take (i := 8) rfl (by kernel_rfl) rfl (QO.sub (by rfl) (by rfl) (by omega) (by omega)) ?_) | (refine RT.take (i := 8) rfl (by kernel_rfl) rfl (QO.ibin (by rfl) (by rfl) trivial) ?_)
              refine RT.take (i := 9) rfl (by kernel_rfl) rfl (QO.fieldAddr fo82_3 (by rfl)) ?_
              refine RT.one (i := 10) (by kernel_rfl) rfl rfl ?_
              refine RS.store1 ty9 rfl (by rfl) (by rfl) (by rfl) (by repeat (first | exact Upd.head | apply Upd.tail)) (by first | (simp; done) | (simp; omega) | omega) ?_
              refine RS.nil ⟨(by repeat (first | exact List.Sublist.refl _ | exact List.nil_sublist _ | refine List.Sublist.cons_cons _ ?_ | refine List.Sublist.cons _ ?_ | exact Sbp.refl | exact Sbp.nil | refine Sbp.cons (by repeat (first | exact Rem.head | apply Rem.tail)) ?_ | exact Sbp.app | refine Sbp.skip ?_)), ?_⟩
              refine RT.take (i := 11) rfl (by kernel_rfl) rfl (QO.fieldAddr fo82_4 (by rfl)) ?_
              refine RT.tail (i := 12) (by kernel_rfl) rfl rfl ?_
              refine RS.store1 ty3 rfl (by rfl) (by rfl) (by rfl) (by repeat (first | exact Upd.head | apply Upd.tail)) (by first | (simp; done) | (simp; omega) | omega) ?_
              refine RS.nil ?_
              refine RT.done (by kernel_rfl) ?_
              refine thenC_n ?_
              refine CS.region ?_
              refine RS.q rfl (QO.move) ?_
              first | (refine RS.q rfl (QO.add (by rfl) (by rfl) (by omega) (by omega)) ?_) | (refine RS.q rfl (QO.ibin (by rfl) (by rfl) trivial) ?_)
              refine RS.q rfl (QO.conv_i64_f32 Tryd.underlying3 Tryd.underlying36 (by rfl)) ?_
              refine RS.q rfl (QO.fieldAddr fo134_2 (by rfl)) ?_
              first | (refine RS.q rfl (QO.load ty3 (by rfl) (by repeat (first | exact List.Mem.head _ | refine List.Mem.tail _ ?_)) (by rfl)) ?_) | (refine RS.q rfl (QO.loadO ty3 (by rfl) (by assumption)) ?_) | (refine RS.q rfl (QO.load ty3 (by rfl) (by repeat (first | exact List.Mem.head _ | refine List.Mem.tail _ ?_)) (by assumption)) ?_)
              first | (refine RS.q rfl (QO.add (by rfl) (by rfl) (by omega) (by omega)) ?_) | (refine RS.q rfl (QO.ibin (by rfl) (by rfl) trivial) ?_)
              refine RS.q rfl (QO.conv_i64_f32 Tryd.underlying3 Tryd.underlying36 (by rfl)) ?_
              refine RS.farith rfl (by rfl) (by rfl) (by simp) ?_
              intro r80 hr80
              refine RS.q rfl (QO.fieldAddr fo82_5 (by rfl)) ?_
              refine RS.store1 ty36 rfl (by rfl) (by rfl) (by rfl) (by repeat (first | exact Upd.head | apply Upd.tail)) (by first | (simp; done) | (simp; omega) | omega) ?_
              refine RS.nil ?_
              refine thenC_n ?_
              refine CS.seq ?_
              refine CS.region ?_
              first | (refine RS.q rfl (QO.loadB ty82 (by rfl) (by repeat (first | exact List.Mem.head _ | refine List.Mem.tail _ ?_)) (by rfl)) ?_) | (refine RS.q rfl (QO.loadA ty82 (by rfl) (by repeat (first | exact List.Mem.head _ | refine List.Mem.tail _ ?_)) (by rfl) (by rfl)) ?_) | (refine RS.q rfl (QO.loadOA ty82 (by rfl) (by assumption) (by rfl)) ?_)
              first | refine RS.storeB ty82 (by rfl) (by rfl) (by rfl) (by rfl) (by rfl) (by repeat (first | exact Upd.head | apply Upd.tail)) (by rfl) ?_ | refine RS.storeP ty82 (by rfl) (by rfl) (by rfl) (by rfl) (by rfl) (by repeat (first | exact Upd.head | apply Upd.tail)) (by rfl) ?_
              refine RS.q rfl (QO.assign) ?_
              refine RS.nil ?_
              refine thenC_n ?_
              refine CS.ret ?_
              refine blockC_r ?_
              refine thenC_r ?_
              refine loopQ_r ?_
              refine blockC_r ?_
              refine thenC_r ?_
              refine retQ.mk (H' := []) (.inr rfl) (RVs.cellA ty82 (by rfl) (by repeat (first | exact List.Mem.head _ | refine List.Mem.tail _ ?_)) (by rfl) (RVs.tmp (by rfl) RVs.nil)) (List.nil_sublist _) ?_
              exact ⟨at_dis hkl hfs he hp (by unfold evEnd; omega) (by omega) (sh_quo (by omega) (by omega) (by omega) hr80), rfl⟩
            · have hb4p := of_decide_eq_false hb4
              refine CS.skip ?_
              refine thenC_n ?_
              refine CS.seq ?_
              refine CS.region ?_
              first | (refine RS.q rfl (QO.loadB ty82 (by rfl) (by repeat (first | exact List.Mem.head _ | refine List.Mem.tail _ ?_)) (by rfl)) ?_) | (refine RS.q rfl (QO.loadA ty82 (by rfl) (by repeat (first | exact List.Mem.head _ | refine List.Mem.tail _ ?_)) (by rfl) (by rfl)) ?_) | (refine RS.q rfl (QO.loadOA ty82 (by rfl) (by assumption) (by rfl)) ?_)
              first | refine RS.storeB ty82 (by rfl) (by rfl) (by rfl) (by rfl) (by rfl) (by repeat (first | exact Upd.head | apply Upd.tail)) (by rfl) ?_ | refine RS.storeP ty82 (by rfl) (by rfl) (by rfl) (by rfl) (by rfl) (by repeat (first | exact Upd.head | apply Upd.tail)) (by rfl) ?_
              refine RS.q rfl (QO.assign) ?_
              refine RS.nil ?_
              refine thenC_n ?_
              refine CS.ret ?_
              refine blockC_r ?_
              refine thenC_r ?_
              refine loopQ_r ?_
              refine blockC_r ?_
              refine thenC_r ?_
              refine retQ.mk (H' := []) (.inr rfl) (RVs.cellA ty82 (by rfl) (by repeat (first | exact List.Mem.head _ | refine List.Mem.tail _ ?_)) (by rfl) (RVs.tmp (by rfl) RVs.nil)) (List.nil_sublist _) ?_
              exact ⟨at_cut hkl hfs he (by unfold evEnd; omega) (by omega), rfl⟩
          · have hb3p := ne_of_beq_false hb3
            refine RS.off (dj := 50) rfl (.inl (congrArg Value.bool hb3)) (fun _ => rfl) rfl ?_
            refine RS.off (dj := 50) rfl (.inl (congrArg Value.bool hb3)) (fun _ => rfl) rfl ?_
            refine RS.off (dj := 50) rfl (.inl (congrArg Value.bool hb3)) (fun _ => rfl) rfl ?_
            refine RS.off (dj := 50) rfl (.inl (congrArg Value.bool hb3)) (fun _ => rfl) rfl ?_
            refine RS.q rfl (QO.pickF (by rfl) hb3 (by rfl)) ?_
            refine RS.nil ?_
            refine thenC_n ?_
            refine CS.condF (by rfl) rfl ?_
            refine CS.skip ?_
            refine thenC_n ?_
            refine CS.seq ?_
            refine CS.region ?_
            first | (refine RS.q rfl (QO.loadB ty82 (by rfl) (by repeat (first | exact List.Mem.head _ | refine List.Mem.tail _ ?_)) (by rfl)) ?_) | (refine RS.q rfl (QO.loadA ty82 (by rfl) (by repeat (first | exact List.Mem.head _ | refine List.Mem.tail _ ?_)) (by rfl) (by rfl)) ?_) | (refine RS.q rfl (QO.loadOA ty82 (by rfl) (by assumption) (by rfl)) ?_)
            first | refine RS.storeB ty82 (by rfl) (by rfl) (by rfl) (by rfl) (by rfl) (by repeat (first | exact Upd.head | apply Upd.tail)) (by rfl) ?_ | refine RS.storeP ty82 (by rfl) (by rfl) (by rfl) (by rfl) (by rfl) (by repeat (first | exact Upd.head | apply Upd.tail)) (by rfl) ?_
            refine RS.q rfl (QO.assign) ?_
            refine RS.nil ?_
            refine thenC_n ?_
            refine CS.ret ?_
            refine blockC_r ?_
            refine thenC_r ?_
            refine loopQ_r ?_
            refine blockC_r ?_
            refine thenC_r ?_
            refine retQ.mk (H' := []) (.inr rfl) (RVs.cellA ty82 (by rfl) (by repeat (first | exact List.Mem.head _ | refine List.Mem.tail _ ?_)) (by rfl) (RVs.tmp (by rfl) RVs.nil)) (List.nil_sublist _) ?_
            exact ⟨at_cut hkl hfs he (by unfold evEnd; omega) (by omega), rfl⟩
    · have hb0p := of_decide_eq_false hb0
      refine CS.exit ?_
      refine thenC_x ?_
      refine loopQ_x ?_
      refine blockC_x ?_
      refine thenC_n ?_
      refine CS.seq ?_
      refine CS.region ?_
      refine RS.q rfl (QO.build ty82 pl82 (by rfl)) ?_
      first | refine RS.storeB ty82 (by rfl) (by rfl) (by rfl) (by rfl) (by rfl) (by repeat (first | exact Upd.head | apply Upd.tail)) (by rfl) ?_ | refine RS.storeP ty82 (by rfl) (by rfl) (by rfl) (by rfl) (by rfl) (by repeat (first | exact Upd.head | apply Upd.tail)) (by rfl) ?_
      refine RS.q rfl (QO.assign) ?_
      refine RS.nil ?_
      refine thenC_n ?_
      refine CS.ret ?_
      refine retQ.mk (H' := []) (.inr rfl) (RVs.cellA ty82 (by rfl) (by repeat (first | exact List.Mem.head _ | refine List.Mem.tail _ ?_)) (by rfl) (RVs.tmp (by rfl) RVs.nil)) (List.nil_sublist _) ?_
      exact ⟨at_none (by omega) hfs, rfl⟩

end Go.Proofs.YtapcgokcfmklbaaDoor

namespace Go.Proofs.YtapcgokcfmklbaaDoor
open Go Go.RowKit

section
variable {P : Program} {W : World} {H : HL} {e : Env} {x : Operand} {t t' ty : TypeId}
theorem QO.conv_ff {s k : FloatKind} {v d : Nat} (hu : (P.underlying t).isSome = true) (hu' : P.underlying t' = some (.float k)) (hx : ev e x = .float s v) (h : floatToFloatBits s v k = some d) : QO P W H e (.convert t t' x) ty (.float k d) := fun d' pos af gd w _ => by
  have h1 := run_convert_float_float (P := P) (w := w) t t' s k v d hu hu' h
  simp only [execOp, hx, Sem.run_bind, Sem.run_pure]
  simp [h1]
end
/-- the magnitude of a double, in bits -/
def absN (d : Nat) : Nat := (IntKind.u64.wrap ((BitVec.ofInt 64 (d : Int) &&& ~~~ BitVec.ofInt 64 9223372036854775808).toNat : Int)).toNat
def absF (r : Nat) : Option Nat := (floatToFloatBits .f32 r .f64).bind fun d => floatToFloatBits .f64 (absN d) .f32
/-- the pattern -/
def pat (i : Nat) : Nat := cvF (((i * i * 7 + i * 13) % 251 + i : Nat) : Int)
def difR (u v : Nat) : Option Nat := (fop .sub u v).bind absF
/-- how far two singles differ -/
def dif (u v : Nat) : Nat := if cl u = cl v then 0 else cl ((difR u v).getD 0)
def cmpF (p q t : Nat) : Nat := dif (pat (4 * ((3 + t / 9) * 9 + 3 + t / 3 % 3) + t % 3)) (pat (4 * ((1 + q + t / 9) * 9 + 1 + p + t / 3 % 3) + t % 3))
def cmpL (p q n : Nat) : List Nat := (List.range n).map (cmpF p q)
/-- how far the pattern differs from itself, moved -/
def cmpR (p q : Nat) : Nat := fo .quo (sum (cmpL p q 27)) (cvF 27)
theorem cmpR_all : ∀ p : Nat, p < 5 → ∀ q : Nat, q < 5 → nan32 (cmpR p q) = false ∧ (p = 2 ∧ q = 2 → cmpR p q = 0) ∧ (¬ (p = 2 ∧ q = 2) → fcmpB .lss 0 (cmpR p q) = true ∧ fcmpB .lss (cmpR p q) 0 = false) := by decide +kernel
structure TS where
  fnd : Bool
  bx : Int
  bz : Int
  ls : Nat
/-- what is known behind k places, the right one being the k0-th -/
def TInv (k0 : Nat) (dx dz : Int) (k : Nat) (s : TS) : Prop :=
  (k ≤ k0 → s.fnd = decide (0 < k) ∧ (0 < k → fcmpB .lss 0 s.ls = true)) ∧ (k0 < k → s.fnd = true ∧ s.bx = dx ∧ s.bz = dz ∧ s.ls = 0)
theorem TInv.start (k0 : Nat) (dx dz : Int) (s : TS) (h : s.fnd = false) : TInv k0 dx dz 0 s := ⟨fun _ => ⟨h, fun h => by omega⟩, fun h => by omega⟩
theorem TInv.step {px py qx qy k : Nat} {s : TS} (hpx : px < 3) (hpy : py < 3) (hqx : qx < 3) (hqy : qy < 3) (hk : k = 3 * qy + qx) (h : TInv (3 * py + px) ((px : Int) - 1) ((py : Int) - 1) k s) :
    ((!s.fnd) = true ∨ fcmpB .lss (cmpR (qx + 2 - px) (qy + 2 - py)) s.ls = true → TInv (3 * py + px) ((px : Int) - 1) ((py : Int) - 1) (k + 1) ⟨true, (qx : Int) - 1, (qy : Int) - 1, cmpR (qx + 2 - px) (qy + 2 - py)⟩) ∧
    ((!s.fnd) = false → fcmpB .lss (cmpR (qx + 2 - px) (qy + 2 - py)) s.ls = false → TInv (3 * py + px) ((px : Int) - 1) ((py : Int) - 1) (k + 1) s) := by
  obtain ⟨c1, c2, c3⟩ := cmpR_all (qx + 2 - px) (by omega) (qy + 2 - py) (by omega)
  obtain ⟨h1, h2⟩ := h
  refine ⟨fun hu => ⟨fun hk1 => ⟨?_, fun _ => ?_⟩, fun hk1 => ?_⟩, fun hf hu => ⟨fun hk1 => ⟨?_, fun _ => ?_⟩, fun hk1 => ?_⟩⟩
  · exact (decide_eq_true (by omega)).symm
  · exact (c3 (by omega)).1
  · rcases Nat.lt_or_ge (3 * py + px) k with h9 | h9
    · exfalso
      obtain ⟨e1, _, _, e4⟩ := h2 h9
      rw [e1, e4] at hu
      rcases hu with hu | hu
      · cases hu
      · rw [(c3 (by omega)).2] at hu; cases hu
    · have e : qx = px ∧ qy = py := by omega
      refine ⟨rfl, ?_, ?_, c2 (by omega)⟩
      · show (qx : Int) - 1 = _; omega
      · show (qy : Int) - 1 = _; omega
  · have := (h1 (by omega)).1
    rw [decide_eq_true (by omega)]
    cases hs : s.fnd
    · rw [hs] at hf; cases hf
    · rfl
  · rcases Nat.eq_zero_or_pos k with h0 | h0
    · exfalso
      have := (h1 (by omega)).1
      rw [h0] at this
      rw [this] at hf; cases hf
    · exact (h1 (by omega)).2 h0
  · rcases Nat.lt_or_ge (3 * py + px) k with h9 | h9
    · exact h2 h9
    · exfalso
      have e : qx + 2 - px = 2 ∧ qy + 2 - py = 2 := by omega
      rw [c2 e] at hu
      rcases Nat.eq_zero_or_pos k with h0 | h0
      · have := (h1 (by omega)).1
        rw [h0] at this
        rw [this] at hf; cases hf
      · rw [(h1 (by omega)).2 h0] at hu; cases hu
theorem TInv.done {px py : Nat} {dx dz : Int} {s : TS} (hpx : px < 3) (hpy : py < 3) (h : TInv (3 * py + px) dx dz 9 s) : s.fnd = true ∧ s.bx = dx ∧ s.bz = dz ∧ s.ls = 0 := h.2 (by omega)
end Go.Proofs.YtapcgokcfmklbaaDoor

namespace Go.Proofs.YtapcgokcfmklbaaDoor
open Go Go.Proofs Go.RowKit

theorem ok104 : callOK Tryd.prog 104 = true := by kernel_rfl
theorem ok105 : callOK Tryd.prog 105 = true := by kernel_rfl

section
variable {P : Program} {W : World} {H : HL} {e : Env} {x y : Operand} {t t' ty : TypeId}
theorem QO.quo64 {i j r : Nat} (hx : ev e x = .float .f64 i) (hy : ev e y = .float .f64 j) (h : Ieee.double.div i j = some r) : QO P W H e (.binOp .quo t x y t') ty (.float .f64 r) := by
  refine QO.bin hx hy (fun w => ?_)
  have h1 : (eqGuard .quo t x y (.float .f64 i) (.float .f64 j)).run P w = .ok () w := by simp [eqGuard]
  simp only [Sem.run_bind, h1, Result.andThen_ok]
  simp [binOp, Op.floatArith, FloatKind.format, h]
end

set_option maxRecDepth 100000 in
theorem rconv (n : Int) (W : World) : Fn_ Tryd.prog 105 #[iv n] W (fun v H => v = flt (cvF n) ∧ H = []) := by
  refine Fn_.intro Tryd.func105 rfl rfl (by rfl) ?_
  refine CS.seq ?_
  refine CS.region ?_
  refine RS.q rfl (QO.assign) ?_
  refine RS.nil ?_
  refine thenC_n ?_
  refine CS.seq ?_
  refine CS.region ?_
  refine RS.q rfl (QO.move) ?_
  refine RS.q rfl (QO.conv_i64_f32 Tryd.underlying3 Tryd.underlying36 (by rfl)) ?_
  refine RS.q rfl (QO.assign) ?_
  refine RS.nil ?_
  refine thenC_n ?_
  refine CS.ret ?_
  refine retQ.mk (H' := []) (.inr rfl) (RVs.tmp (by rfl) RVs.nil) (List.nil_sublist _) ?_
  exact ⟨rfl, rfl⟩

set_option maxRecDepth 100000 in
theorem rdivS (a b x y z s : Nat) (W : World) (h1 : floatToFloatBits .f32 a .f64 = some x) (h2 : floatToFloatBits .f32 b .f64 = some y) (h3 : Ieee.double.div x y = some z) (h4 : floatToFloatBits .f64 z .f32 = some s) : Fn_ Tryd.prog 104 #[flt a, flt b] W (fun v H => v = flt s ∧ H = []) := by
  refine Fn_.intro Tryd.func104 rfl rfl (by rfl) ?_
  refine CS.seq ?_
  refine CS.region ?_
  refine RS.q rfl (QO.assign) ?_
  refine RS.nil ?_
  refine thenC_n ?_
  refine CS.seq ?_
  refine CS.region ?_
  refine RS.q rfl (QO.move) ?_
  refine RS.q rfl (QO.conv_ff (s := .f32) (k := .f64) (by rw [Tryd.underlying36]; rfl) Tryd.underlying195 (by rfl) h1) ?_
  refine RS.q rfl (QO.move) ?_
  refine RS.q rfl (QO.conv_ff (s := .f32) (k := .f64) (by rw [Tryd.underlying36]; rfl) Tryd.underlying195 (by rfl) h2) ?_
  refine RS.q rfl (QO.quo64 (by rfl) (by rfl) h3) ?_
  refine RS.q rfl (QO.conv_ff (s := .f64) (k := .f32) (by rw [Tryd.underlying195]; rfl) Tryd.underlying36 (by rfl) h4) ?_
  refine RS.q rfl (QO.assign) ?_
  refine RS.nil ?_
  refine thenC_n ?_
  refine CS.ret ?_
  refine retQ.mk (H' := []) (.inr rfl) (RVs.tmp (by rfl) RVs.nil) (List.nil_sublist _) ?_
  exact ⟨rfl, rfl⟩

theorem rdivI (a b : Int) (W : World) (h1 : 1 ≤ a) (h2 : a < b) (h3 : b ≤ 251) : Fn_ Tryd.prog 104 #[flt (cvF a), flt (cvF b)] W (fun v H => v = flt (shB a.toNat b.toNat) ∧ H = []) := by
  obtain ⟨_, _, _, x, y, z, k1, k2, k3, k4⟩ := shB_ok (a := a.toNat) (b := b.toNat) (by omega) (by omega) (by omega)
  rw [Int.toNat_of_nonneg (by omega)] at k1
  rw [Int.toNat_of_nonneg (by omega)] at k2
  exact rdivS _ _ x y z _ W k1 k2 k3 k4

set_option maxHeartbeats 8000000 in
set_option maxRecDepth 100000 in
theorem rat1 (t : List UInt8) (rate : Int) (A : Option Addr) (n c : Nat) (l : List Ev) (f : Int) (W : World) (hl : l.length = n) (hES : ES W A l) (hE : edE t rate l = 0) (hm : n ≤ maxLen) (hf0 : 0 ≤ f) : Fn_ Tryd.prog 44 #[.agg #[sv t, iv rate, .slice A n c], iv f] W (fun v H => v = atV (atR l f) ∧ H = []) := by
  subst hl
  unfold maxLen at hm
  have hok4 := (edE_ok hE).2.2.2
  refine Fn_.intro Tryd.func44 rfl rfl (by rfl) ?_
  refine CS.seq ?_
  refine CS.region ?_
  refine RS.box rfl (by rfl) (by rfl) ?_
  intro g2
  refine RS.alloc rfl ty82 ?_
  intro g4
  refine RS.q rfl (QO.assign) ?_
  refine RS.nil ?_
  refine thenC_n ?_
  refine CS.seq ?_
  refine CS.seq ?_
  refine CS.region ?_
  refine RS.q rfl (QO.move) ?_
  refine RS.q rfl (QO.lss (by rfl) (by rfl)) ?_
  refine RS.nil ?_
  refine thenC_n ?_
  refine CS.condF (by rfl) (decide_eq_false (by omega)) ?_
  refine CS.skip ?_
  refine thenC_n ?_
  refine CS.seq ?_
  refine CS.seq ?_
  refine CS.region ?_
  refine RS.q rfl (QO.fieldAddr fo52_2 (by rfl)) ?_
  first | (refine RS.q rfl (QO.load ty50 (by rfl) (by repeat (first | exact List.Mem.head _ | refine List.Mem.tail _ ?_)) (by rfl)) ?_) | (refine RS.q rfl (QO.loadO ty50 (by rfl) (by assumption)) ?_) | (refine RS.q rfl (QO.load ty50 (by rfl) (by repeat (first | exact List.Mem.head _ | refine List.Mem.tail _ ?_)) (by assumption)) ?_)
  refine RS.q rfl (QO.lenS Tryd.underlying50 (by rfl)) ?_
  refine RS.q rfl (QO.move) ?_
  refine RS.nil ?_
  refine thenC_n ?_
  refine CS.block ?_
  refine CS.loop (X := Nat) (5 :: 6 :: 7 :: 8 :: 9 :: 10 :: 17 :: 18 :: 19 :: 20 :: 21 :: 22 :: 23 :: 24 :: 25 :: 26 :: 27 :: 28 :: 29 :: 30 :: 31 :: 32 :: 33 :: 34 :: 35 :: 36 :: 37 :: 38 :: 39 :: 40 :: 41 :: 42 :: 43 :: 44 :: 45 :: 46 :: 47 :: 48 :: 49 :: 50 :: 51 :: 52 :: 53 :: 54 :: 55 :: 56 :: 57 :: 58 :: 59 :: 60 :: 61 :: 62 :: 63 :: 64 :: 65 :: 66 :: 67 :: 68 :: 69 :: 70 :: 71 :: 72 :: 73 :: 74 :: 75 :: 76 :: 77 :: 78 :: []) (fun k => [(17, iv (k : Int))]) (fun k => [⟨g2, 52, [sv t, iv rate, .slice A l.length c]⟩, ⟨g4, 82, [iv 0, sv [], iv 0, sv [], iv 0, flt 0]⟩]) (fun k => k ≤ l.length ∧ fst l f k = none) (fun k => l.length - k) 0 ⟨Nat.zero_le _, rfl⟩ ?_ ?_ ?_
  · exact (by repeat (first | exact kn_nil | refine kn_cons (by rfl) ?_))
  · exact (by repeat (first | exact List.Sublist.refl _ | exact List.nil_sublist _ | refine List.Sublist.cons_cons _ ?_ | refine List.Sublist.cons _ ?_ | exact Sbp.refl | exact Sbp.nil | refine Sbp.cons (by repeat (first | exact Rem.head | apply Rem.tail)) ?_ | exact Sbp.app | refine Sbp.skip ?_))
  · intro k gj4 hz
    obtain ⟨hk, hfs⟩ := hz
    refine CS.seq ?_
    refine CS.region ?_
    refine RS.q rfl (QO.lss (by rfl) (by rfl)) ?_
    refine RS.nil ?_
    refine thenC_n ?_
    refine CS.seq ?_
    refine CS.cond (by rfl) (fun hb0 => ?_) (fun hb0 => ?_)
    · have hb0p := of_decide_eq_true hb0
      refine CS.skip ?_
      refine thenC_n ?_
      refine CS.seq ?_
      refine CS.block ?_
      refine CS.seq ?_
      refine CS.region ?_
      have hkl : k < l.length := by omega
      have hx1 := hES.at_ hkl
      obtain ⟨bA, oA, hA0, hcell⟩ := hx1
      subst hA0
      have hok := evE1_ok (hok4 k hkl)
      have hx2 : ∃ e, l.getD k default = e := ⟨_, rfl⟩
      obtain ⟨e, he⟩ := hx2
      rw [he] at hcell hok
      have hev : evEnd e = e.at_ + (e.out - e.inn) := rfl
      refine RS.q rfl (QO.move) ?_
      refine RS.q rfl (QO.idx Tryd.underlying50 ty134 (by rfl) (by rfl) (by omega) (by omega)) ?_
      refine RS.q rfl (QO.loadOA ty134 (vs := evc e) (by rfl) hcell (by rfl)) ?_
      refine RS.alloc rfl ty134 ?_
      intro g7
      refine RS.q rfl (QO.assign) ?_
      first | refine RS.storeB ty134 (by rfl) (by rfl) (by rfl) (by rfl) (by rfl) (by repeat (first | exact Upd.head | apply Upd.tail)) (by rfl) ?_ | refine RS.storeP ty134 (by rfl) (by rfl) (by rfl) (by rfl) (by rfl) (by repeat (first | exact Upd.head | apply Upd.tail)) (by rfl) ?_
      refine RS.nil ?_
      refine thenC_n ?_
      refine CS.seq ?_
      refine CS.seq ?_
      refine CS.region ?_
      refine RS.q rfl (QO.move) ?_
      refine RS.q rfl (QO.fieldAddr fo134_5 (by rfl)) ?_
      first | (refine RS.q rfl (QO.load ty3 (by rfl) (by repeat (first | exact List.Mem.head _ | refine List.Mem.tail _ ?_)) (by rfl)) ?_) | (refine RS.q rfl (QO.loadO ty3 (by rfl) (by assumption)) ?_) | (refine RS.q rfl (QO.load ty3 (by rfl) (by repeat (first | exact List.Mem.head _ | refine List.Mem.tail _ ?_)) (by assumption)) ?_)
      refine RS.q rfl (QO.lss (by rfl) (by rfl)) ?_
      refine RS.q rfl (QO.move) ?_
      refine RS.split (dj := 26) (by rfl) (fun hb1 => ?_) (fun hb1 => ?_)
      · have hb1p := of_decide_eq_true hb1
        refine RS.off (dj := 26) rfl (.inl (congrArg Value.bool hb1)) (fun _ => rfl) rfl ?_
        refine RS.off (dj := 26) rfl (.inl (congrArg Value.bool hb1)) (fun _ => rfl) rfl ?_
        refine RS.off (dj := 26) rfl (.inl (congrArg Value.bool hb1)) (fun _ => rfl) rfl ?_
        refine RS.off (dj := 26) rfl (.inl (congrArg Value.bool hb1)) (fun _ => rfl) rfl ?_
        refine RS.q rfl (QO.pickT (by rfl) hb1 (by rfl)) ?_
        refine RS.nil ?_
        refine thenC_n ?_
        refine CS.condT (by rfl) rfl ?_
        refine CS.exit ?_
        refine thenC_x ?_
        refine blockC_x ?_
        refine thenC_n ?_
        refine CS.region ?_
        first | (refine RS.q rfl (QO.add (by rfl) (by rfl) (by omega) (by omega)) ?_) | (refine RS.q rfl (QO.ibin (by rfl) (by rfl) trivial) ?_)
        refine RS.q rfl (QO.move) ?_
        refine RS.nil ?_
        refine loopQ_n (by intro t ht; repeat (first | with_reducible exact rfl | exact frame_puts ht (frame_mix ht) _ rfl | (refine frame_put rfl ht ?_) | (refine frame_puts ht ?_ _ rfl) | exact frame_mix ht | (refine frame_mix2 rfl ht ?_) | exact rfl)) ?_
        exact ⟨k + 1, ⟨by omega, fst_no hfs (by rw [he]; omega)⟩, by omega, (by repeat (first | exact kn_nil | refine kn_cons (by rfl) ?_)), (by repeat (first | exact List.Sublist.refl _ | exact List.nil_sublist _ | refine List.Sublist.cons_cons _ ?_ | refine List.Sublist.cons _ ?_ | exact Sbp.refl | exact Sbp.nil | refine Sbp.cons (by repeat (first | exact Rem.head | apply Rem.tail)) ?_ | exact Sbp.app | refine Sbp.skip ?_))⟩
      · have hb1p := of_decide_eq_false hb1
        refine RS.on (dj := 26) rfl (congrArg Value.bool hb1) ?_
        refine RS.q rfl (QO.move) ?_
        refine RS.on (dj := 26) rfl (congrArg Value.bool hb1) ?_
        first | (refine RS.q rfl (QO.loadB ty134 (by rfl) (by repeat (first | exact List.Mem.head _ | refine List.Mem.tail _ ?_)) (by rfl)) ?_) | (refine RS.q rfl (QO.loadA ty134 (by rfl) (by repeat (first | exact List.Mem.head _ | refine List.Mem.tail _ ?_)) (by rfl) (by rfl)) ?_) | (refine RS.q rfl (QO.loadOA ty134 (by rfl) (by assumption) (by rfl)) ?_)
        refine RS.on (dj := 26) rfl (congrArg Value.bool hb1) ?_
        refine RS.call rfl (by rfl) ok102 (by rfl) (fun w ho => rend e _ (by omega) (by omega)) ?_
        rintro _ _ ⟨rfl, rfl⟩
        refine RS.on (dj := 26) rfl (congrArg Value.bool hb1) ?_
        refine RS.q rfl (QO.geq (by rfl) (by rfl)) ?_
        refine RS.q rfl (QO.pickF (by rfl) hb1 (by rfl)) ?_
        refine RS.nil ?_
        refine thenC_n ?_
        refine CS.cond (by rfl) (fun hb2 => ?_) (fun hb2 => ?_)
        · have hb2p := of_decide_eq_true hb2
          refine CS.exit ?_
          refine thenC_x ?_
          refine blockC_x ?_
          refine thenC_n ?_
          refine CS.region ?_
          first | (refine RS.q rfl (QO.add (by rfl) (by rfl) (by omega) (by omega)) ?_) | (refine RS.q rfl (QO.ibin (by rfl) (by rfl) trivial) ?_)
          refine RS.q rfl (QO.move) ?_
          refine RS.nil ?_
          refine loopQ_n (by intro t ht; repeat (first | with_reducible exact rfl | exact frame_puts ht (frame_mix ht) _ rfl | (refine frame_put rfl ht ?_) | (refine frame_puts ht ?_ _ rfl) | exact frame_mix ht | (refine frame_mix2 rfl ht ?_) | exact rfl)) ?_
          exact ⟨k + 1, ⟨by omega, fst_no hfs (by rw [he]; omega)⟩, by omega, (by repeat (first | exact kn_nil | refine kn_cons (by rfl) ?_)), (by repeat (first | exact List.Sublist.refl _ | exact List.nil_sublist _ | refine List.Sublist.cons_cons _ ?_ | refine List.Sublist.cons _ ?_ | exact Sbp.refl | exact Sbp.nil | refine Sbp.cons (by repeat (first | exact Rem.head | apply Rem.tail)) ?_ | exact Sbp.app | refine Sbp.skip ?_))⟩
        · have hb2p := of_decide_eq_false hb2
          refine CS.skip ?_
          refine thenC_n ?_
          refine CS.seq ?_
          refine CS.region ?_
          refine RS.q rfl (QO.move) ?_
          refine RS.q rfl (QO.fieldAddr fo134_0 (by rfl)) ?_
          first | (refine RS.q rfl (QO.load ty9 (by rfl) (by repeat (first | exact List.Mem.head _ | refine List.Mem.tail _ ?_)) (by rfl)) ?_) | (refine RS.q rfl (QO.loadO ty9 (by rfl) (by assumption)) ?_) | (refine RS.q rfl (QO.load ty9 (by rfl) (by repeat (first | exact List.Mem.head _ | refine List.Mem.tail _ ?_)) (by assumption)) ?_)
          refine RS.q rfl (QO.fieldAddr fo134_3 (by rfl)) ?_
          first | (refine RS.q rfl (QO.load ty3 (by rfl) (by repeat (first | exact List.Mem.head _ | refine List.Mem.tail _ ?_)) (by rfl)) ?_) | (refine RS.q rfl (QO.loadO ty3 (by rfl) (by assumption)) ?_) | (refine RS.q rfl (QO.load ty3 (by rfl) (by repeat (first | exact List.Mem.head _ | refine List.Mem.tail _ ?_)) (by assumption)) ?_)
          refine RS.q rfl (QO.move) ?_
          first | (refine RS.q rfl (QO.add (by rfl) (by rfl) (by omega) (by omega)) ?_) | (refine RS.q rfl (QO.ibin (by rfl) (by rfl) trivial) ?_)
          refine RS.q rfl (QO.fieldAddr fo134_5 (by rfl)) ?_
          first | (refine RS.q rfl (QO.load ty3 (by rfl) (by repeat (first | exact List.Mem.head _ | refine List.Mem.tail _ ?_)) (by rfl)) ?_) | (refine RS.q rfl (QO.loadO ty3 (by rfl) (by assumption)) ?_) | (refine RS.q rfl (QO.load ty3 (by rfl) (by repeat (first | exact List.Mem.head _ | refine List.Mem.tail _ ?_)) (by assumption)) ?_)
          first | (refine RS.q rfl (QO.sub (by rfl) (by rfl) (by omega) (by omega)) ?_) | (refine RS.q rfl (QO.ibin (by rfl) (by rfl) trivial) ?_)
          refine RS.q rfl (QO.build ty82 pl82 (by rfl)) ?_
          refine RS.alloc rfl ty82 ?_
          intro g8
          first | refine RS.storeB ty82 (by rfl) (by rfl) (by rfl) (by rfl) (by rfl) (by repeat (first | exact Upd.head | apply Upd.tail)) (by rfl) ?_ | refine RS.storeP ty82 (by rfl) (by rfl) (by rfl) (by rfl) (by rfl) (by repeat (first | exact Upd.head | apply Upd.tail)) (by rfl) ?_
          refine RS.nil ?_
          refine thenC_n ?_
          refine CS.seq ?_
          refine CS.seq ?_
          refine CS.region ?_
          refine RS.q rfl (QO.move) ?_
          refine RS.q rfl (QO.fieldAddr fo134_5 (by rfl)) ?_
          first | (refine RS.q rfl (QO.load ty3 (by rfl) (by repeat (first | exact List.Mem.head _ | refine List.Mem.tail _ ?_)) (by rfl)) ?_) | (refine RS.q rfl (QO.loadO ty3 (by rfl) (by assumption)) ?_) | (refine RS.q rfl (QO.load ty3 (by rfl) (by repeat (first | exact List.Mem.head _ | refine List.Mem.tail _ ?_)) (by assumption)) ?_)
          first | (refine RS.q rfl (QO.sub (by rfl) (by rfl) (by omega) (by omega)) ?_) | (refine RS.q rfl (QO.ibin (by rfl) (by rfl) trivial) ?_)
          refine RS.q rfl (QO.assign) ?_
          refine RS.nil ?_
          refine thenC_n ?_
          refine CS.seq ?_
          refine CS.region ?_
          refine RS.q rfl (QO.move) ?_
          refine RS.q rfl (QO.fieldAddr fo134_2 (by rfl)) ?_
          first | (refine RS.q rfl (QO.load ty3 (by rfl) (by repeat (first | exact List.Mem.head _ | refine List.Mem.tail _ ?_)) (by rfl)) ?_) | (refine RS.q rfl (QO.loadO ty3 (by rfl) (by assumption)) ?_) | (refine RS.q rfl (QO.load ty3 (by rfl) (by repeat (first | exact List.Mem.head _ | refine List.Mem.tail _ ?_)) (by assumption)) ?_)
          refine RS.q rfl (QO.lss (by rfl) (by rfl)) ?_
          refine RS.nil ?_
          refine thenC_n ?_
          refine CS.cond (by rfl) (fun hb3 => ?_) (fun hb3 => ?_)
          · have hb3p := of_decide_eq_true hb3
            refine CS.seq ?_
            refine CS.region ?_
            have hx3 := hES.at_ (show k - 1 < l.length by omega)
            obtain ⟨bA2, oA2, hA2, hcel2⟩ := hx3
            obtain ⟨rfl, rfl⟩ : bA = bA2 ∧ oA = oA2 := by injection hA2 with hA2; injection hA2 with a1 a2; exact ⟨a1, a2⟩
            have hokp := evE1_ok (hok4 (k - 1) (by omega))
            have hx4 : ∃ p, l.getD (k - 1) default = p := ⟨_, rfl⟩
            obtain ⟨p, hp⟩ := hx4
            rw [hp] at hcel2 hokp
            refine RS.q rfl (QO.fieldAddr fo52_2 (by rfl)) ?_
            first | (refine RS.q rfl (QO.load ty50 (by rfl) (by repeat (first | exact List.Mem.head _ | refine List.Mem.tail _ ?_)) (by rfl)) ?_) | (refine RS.q rfl (QO.loadO ty50 (by rfl) (by assumption)) ?_) | (refine RS.q rfl (QO.load ty50 (by rfl) (by repeat (first | exact List.Mem.head _ | refine List.Mem.tail _ ?_)) (by assumption)) ?_)
            refine RS.q rfl (QO.move) ?_
            first | (refine RS.qv rfl (QO.sub (by rfl) (by rfl) (by omega) (by omega)) (congrArg iv (show (k : Int) - 1 = ((k - 1 : Nat) : Int) by omega)) ?_) | (refine RS.qv rfl (QO.ibin (by rfl) (by rfl) trivial) (congrArg iv (show (k : Int) - 1 = ((k - 1 : Nat) : Int) by omega)) ?_)
            refine RS.q rfl (QO.idx Tryd.underlying50 ty134 (by rfl) (by rfl) (by omega) (by omega)) ?_
            refine RS.q rfl (QO.loadOA ty134 (vs := evc p) (by rfl) hcel2 (by rfl)) ?_
            refine RS.alloc rfl ty134 ?_
            intro g10
            first | refine RS.storeB ty134 (by rfl) (by rfl) (by rfl) (by rfl) (by rfl) (by repeat (first | exact Upd.head | apply Upd.tail)) (by rfl) ?_ | refine RS.storeP ty134 (by rfl) (by rfl) (by rfl) (by rfl) (by rfl) (by repeat (first | exact Upd.head | apply Upd.tail)) (by rfl) ?_
            refine RS.nil ?_
            refine thenC_n ?_
            refine CS.drawS (HS := [⟨g10, 134, [sv p.reel, iv p.kind, iv p.len, iv p.inn, iv p.out, iv p.at_]⟩, ⟨g7, 134, [sv e.reel, iv e.kind, iv e.len, iv e.inn, iv e.out, iv e.at_]⟩]) 22 (by repeat (first | exact List.Sublist.refl _ | exact List.nil_sublist _ | refine List.Sublist.cons_cons _ ?_ | refine List.Sublist.cons _ ?_ | exact Sbp.refl | exact Sbp.nil | refine Sbp.cons (by repeat (first | exact Rem.head | apply Rem.tail)) ?_ | exact Sbp.app | refine Sbp.skip ?_)) rfl (by kernel_rfl) (by kernel_rfl) ?_
            refine RT.take (i := 0) rfl (by kernel_rfl) rfl (QO.fieldAddr fo134_0 (by rfl)) ?_
            first | (refine RT.take (i := 1) rfl (by kernel_rfl) rfl (QO.load ty9 (by rfl) (by repeat (first | exact List.Mem.head _ | refine List.Mem.tail _ ?_)) (by rfl)) ?_) | (refine RT.take (i := 1) rfl (by kernel_rfl) rfl (QO.loadO ty9 (by rfl) (by assumption)) ?_) | (refine RT.take (i := 1) rfl (by kernel_rfl) rfl (QO.load ty9 (by rfl) (by repeat (first | exact List.Mem.head _ | refine List.Mem.tail _ ?_)) (by assumption)) ?_)
            refine RT.take (i := 2) rfl (by kernel_rfl) rfl (QO.fieldAddr fo134_3 (by rfl)) ?_
            first | (refine RT.take (i := 3) rfl (by kernel_rfl) rfl (QO.load ty3 (by rfl) (by repeat (first | exact List.Mem.head _ | refine List.Mem.tail _ ?_)) (by rfl)) ?_) | (refine RT.take (i := 3) rfl (by kernel_rfl) rfl (QO.loadO ty3 (by rfl) (by assumption)) ?_) | (refine RT.take (i := 3) rfl (by kernel_rfl) rfl (QO.load ty3 (by rfl) (by repeat (first | exact List.Mem.head _ | refine List.Mem.tail _ ?_)) (by assumption)) ?_)
            refine RT.take (i := 4) rfl (by kernel_rfl) rfl (QO.move) ?_
            first | (refine RT.take (i := 5) rfl (by kernel_rfl) rfl (QO.add (by rfl) (by rfl) (by omega) (by omega)) ?_) | (refine RT.take (i := 5) rfl (by kernel_rfl) rfl (QO.ibin (by rfl) (by rfl) trivial) ?_)
            refine RT.take (i := 6) rfl (by kernel_rfl) rfl (QO.fieldAddr fo134_5 (by rfl)) ?_
            first | (refine RT.take (i := 7) rfl (by kernel_rfl) rfl (QO.load ty3 (by rfl) (by repeat (first | exact List.Mem.head _ | refine List.Mem.tail _ ?_)) (by rfl)) ?_) | (refine RT.take (i := 7) rfl (by kernel_rfl) rfl (QO.loadO ty3 (by rfl) (by assumption)) ?_) | (refine RT.take (i := 7) rfl (by kernel_rfl) rfl (QO.load ty3 (by rfl) (by repeat (first | exact List.Mem.head _ | refine List.Mem.tail _ ?_)) (by assumption)) ?_)
            first | (refine RT.take (i := 8) rfl (by kernel_rfl) rfl (QO.sub (by rfl) (by rfl) (by omega) (by omega)) ?_) | (refine RT.take (i := 8) rfl (by kernel_rfl) rfl (QO.ibin (by rfl) (by rfl) trivial) ?_)
            refine RT.take (i := 9) rfl (by kernel_rfl) rfl (QO.move) ?_
            first | (refine RT.take (i := 10) rfl (by kernel_rfl) rfl (QO.add (by rfl) (by rfl) (by omega) (by omega)) ?_) | (refine RT.take (i := 10) rfl (by kernel_rfl) rfl (QO.ibin (by rfl) (by rfl) trivial) ?_)
            refine RT.take (i := 12) rfl (by kernel_rfl) rfl (QO.fieldAddr fo134_2 (by rfl)) ?_
            first | (refine RT.take (i := 13) rfl (by kernel_rfl) rfl (QO.load ty3 (by rfl) (by repeat (first | exact List.Mem.head _ | refine List.Mem.tail _ ?_)) (by rfl)) ?_) | (refine RT.take (i := 13) rfl (by kernel_rfl) rfl (QO.loadO ty3 (by rfl) (by assumption)) ?_) | (refine RT.take (i := 13) rfl (by kernel_rfl) rfl (QO.load ty3 (by rfl) (by repeat (first | exact List.Mem.head _ | refine List.Mem.tail _ ?_)) (by assumption)) ?_)
            first | (refine RT.take (i := 14) rfl (by kernel_rfl) rfl (QO.add (by rfl) (by rfl) (by omega) (by omega)) ?_) | (refine RT.take (i := 14) rfl (by kernel_rfl) rfl (QO.ibin (by rfl) (by rfl) trivial) ?_)
            refine RT.take (i := 17) rfl (by kernel_rfl) rfl (QO.fieldAddr fo82_3 (by rfl)) ?_
            refine RT.one (i := 11) (by kernel_rfl) rfl rfl ?_
            refine RS.call rfl (by rfl) ok105 (by rfl) (fun w ho => rconv (f - e.at_ + 1) _) ?_
            rintro _ _ ⟨rfl, rfl⟩
            refine RS.nil ⟨(by repeat (first | exact List.Sublist.refl _ | exact List.nil_sublist _ | refine List.Sublist.cons_cons _ ?_ | refine List.Sublist.cons _ ?_ | exact Sbp.refl | exact Sbp.nil | refine Sbp.cons (by repeat (first | exact Rem.head | apply Rem.tail)) ?_ | exact Sbp.app | refine Sbp.skip ?_)), ?_⟩
            refine RT.one (i := 15) (by kernel_rfl) rfl rfl ?_
            refine RS.call rfl (by rfl) ok105 (by rfl) (fun w ho => rconv (e.len + 1) _) ?_
            rintro _ _ ⟨rfl, rfl⟩
            refine RS.nil ⟨(by repeat (first | exact List.Sublist.refl _ | exact List.nil_sublist _ | refine List.Sublist.cons_cons _ ?_ | refine List.Sublist.cons _ ?_ | exact Sbp.refl | exact Sbp.nil | refine Sbp.cons (by repeat (first | exact Rem.head | apply Rem.tail)) ?_ | exact Sbp.app | refine Sbp.skip ?_)), ?_⟩
            refine RT.one (i := 16) (by kernel_rfl) rfl rfl ?_
            refine RS.call rfl (by rfl) ok104 (by rfl) (fun w ho => rdivI (f - e.at_ + 1) (e.len + 1) _ (by omega) (by omega) (by omega)) ?_
            rintro _ _ ⟨rfl, rfl⟩
            refine RS.nil ⟨(by repeat (first | exact List.Sublist.refl _ | exact List.nil_sublist _ | refine List.Sublist.cons_cons _ ?_ | refine List.Sublist.cons _ ?_ | exact Sbp.refl | exact Sbp.nil | refine Sbp.cons (by repeat (first | exact Rem.head | apply Rem.tail)) ?_ | exact Sbp.app | refine Sbp.skip ?_)), ?_⟩
            refine RT.one (i := 18) (by kernel_rfl) rfl rfl ?_
            refine RS.store1 ty9 rfl (by rfl) (by rfl) (by rfl) (by repeat (first | exact Upd.head | apply Upd.tail)) (by first | (simp; done) | (simp; omega) | omega) ?_
            refine RS.nil ⟨(by repeat (first | exact List.Sublist.refl _ | exact List.nil_sublist _ | refine List.Sublist.cons_cons _ ?_ | refine List.Sublist.cons _ ?_ | exact Sbp.refl | exact Sbp.nil | refine Sbp.cons (by repeat (first | exact Rem.head | apply Rem.tail)) ?_ | exact Sbp.app | refine Sbp.skip ?_)), ?_⟩
            refine RT.take (i := 19) rfl (by kernel_rfl) rfl (QO.fieldAddr fo82_4 (by rfl)) ?_
            refine RT.one (i := 20) (by kernel_rfl) rfl rfl ?_
            refine RS.store1 ty3 rfl (by rfl) (by rfl) (by rfl) (by repeat (first | exact Upd.head | apply Upd.tail)) (by first | (simp; done) | (simp; omega) | omega) ?_
            refine RS.nil ⟨(by repeat (first | exact List.Sublist.refl _ | exact List.nil_sublist _ | refine List.Sublist.cons_cons _ ?_ | refine List.Sublist.cons _ ?_ | exact Sbp.refl | exact Sbp.nil | refine Sbp.cons (by repeat (first | exact Rem.head | apply Rem.tail)) ?_ | exact Sbp.app | refine Sbp.skip ?_)), ?_⟩
            refine RT.take (i := 21) rfl (by kernel_rfl) rfl (QO.fieldAddr fo82_5 (by rfl)) ?_
            refine RT.tail (i := 22) (by kernel_rfl) rfl rfl ?_
            refine RS.store1 ty36 rfl (by rfl) (by rfl) (by rfl) (by repeat (first | exact Upd.head | apply Upd.tail)) (by first | (simp; done) | (simp; omega) | omega) ?_
            refine RS.nil ?_
            refine RT.done (by kernel_rfl) ?_
            refine thenC_n ?_
            refine CS.seq ?_
            refine CS.region ?_
            first | (refine RS.q rfl (QO.loadB ty82 (by rfl) (by repeat (first | exact List.Mem.head _ | refine List.Mem.tail _ ?_)) (by rfl)) ?_) | (refine RS.q rfl (QO.loadA ty82 (by rfl) (by repeat (first | exact List.Mem.head _ | refine List.Mem.tail _ ?_)) (by rfl) (by rfl)) ?_) | (refine RS.q rfl (QO.loadOA ty82 (by rfl) (by assumption) (by rfl)) ?_)
            first | refine RS.storeB ty82 (by rfl) (by rfl) (by rfl) (by rfl) (by rfl) (by repeat (first | exact Upd.head | apply Upd.tail)) (by rfl) ?_ | refine RS.storeP ty82 (by rfl) (by rfl) (by rfl) (by rfl) (by rfl) (by repeat (first | exact Upd.head | apply Upd.tail)) (by rfl) ?_
            refine RS.q rfl (QO.assign) ?_
            refine RS.nil ?_
            refine thenC_n ?_
            refine CS.ret ?_
            refine blockC_r ?_
            refine thenC_r ?_
            refine loopQ_r ?_
            refine blockC_r ?_
            refine thenC_r ?_
            refine retQ.mk (H' := []) (.inr rfl) (RVs.cellA ty82 (by rfl) (by repeat (first | exact List.Mem.head _ | refine List.Mem.tail _ ?_)) (by rfl) (RVs.tmp (by rfl) RVs.nil)) (List.nil_sublist _) ?_
            exact ⟨at_dis hkl hfs he hp (by omega) (by omega) rfl, rfl⟩
          · have hb3p := of_decide_eq_false hb3
            refine CS.skip ?_
            refine thenC_n ?_
            refine CS.seq ?_
            refine CS.region ?_
            first | (refine RS.q rfl (QO.loadB ty82 (by rfl) (by repeat (first | exact List.Mem.head _ | refine List.Mem.tail _ ?_)) (by rfl)) ?_) | (refine RS.q rfl (QO.loadA ty82 (by rfl) (by repeat (first | exact List.Mem.head _ | refine List.Mem.tail _ ?_)) (by rfl) (by rfl)) ?_) | (refine RS.q rfl (QO.loadOA ty82 (by rfl) (by assumption) (by rfl)) ?_)
            first | refine RS.storeB ty82 (by rfl) (by rfl) (by rfl) (by rfl) (by rfl) (by repeat (first | exact Upd.head | apply Upd.tail)) (by rfl) ?_ | refine RS.storeP ty82 (by rfl) (by rfl) (by rfl) (by rfl) (by rfl) (by repeat (first | exact Upd.head | apply Upd.tail)) (by rfl) ?_
            refine RS.q rfl (QO.assign) ?_
            refine RS.nil ?_
            refine thenC_n ?_
            refine CS.ret ?_
            refine blockC_r ?_
            refine thenC_r ?_
            refine loopQ_r ?_
            refine blockC_r ?_
            refine thenC_r ?_
            refine retQ.mk (H' := []) (.inr rfl) (RVs.cellA ty82 (by rfl) (by repeat (first | exact List.Mem.head _ | refine List.Mem.tail _ ?_)) (by rfl) (RVs.tmp (by rfl) RVs.nil)) (List.nil_sublist _) ?_
            exact ⟨at_cut hkl hfs he (by omega) (by omega), rfl⟩
    · have hb0p := of_decide_eq_false hb0
      refine CS.exit ?_
      refine thenC_x ?_
      refine loopQ_x ?_
      refine blockC_x ?_
      refine thenC_n ?_
      refine CS.seq ?_
      refine CS.region ?_
      refine RS.q rfl (QO.build ty82 pl82 (by rfl)) ?_
      first | refine RS.storeB ty82 (by rfl) (by rfl) (by rfl) (by rfl) (by rfl) (by repeat (first | exact Upd.head | apply Upd.tail)) (by rfl) ?_ | refine RS.storeP ty82 (by rfl) (by rfl) (by rfl) (by rfl) (by rfl) (by repeat (first | exact Upd.head | apply Upd.tail)) (by rfl) ?_
      refine RS.q rfl (QO.assign) ?_
      refine RS.nil ?_
      refine thenC_n ?_
      refine CS.ret ?_
      refine retQ.mk (H' := []) (.inr rfl) (RVs.cellA ty82 (by rfl) (by repeat (first | exact List.Mem.head _ | refine List.Mem.tail _ ?_)) (by rfl) (RVs.tmp (by rfl) RVs.nil)) (List.nil_sublist _) ?_
      exact ⟨at_none (by omega) hfs, rfl⟩

end Go.Proofs.YtapcgokcfmklbaaDoor

namespace Go.Proofs.YtapcgokcfmklbaaDoor
open Go Go.RowKit

/-- Called over the caller's own blocks H (those beyond W), f hands back a value and leaves blocks that stand in the relation R. -/
def FnH (P : Program) (f : FuncId) (args : Array Value) (W : World) (H : HL) (R : Value → HL → Prop) : Prop :=
  ∀ w, Own W w H → Calls P f args w (fun x w' => ∃ v H', x = .returned v ∧ Own W w' H' ∧ R v H')
theorem FnH.mono {P : Program} {f : FuncId} {args : Array Value} {W : World} {H : HL} {R R' : Value → HL → Prop} (h : FnH P f args W H R) (hr : ∀ v H, R v H → R' v H) : FnH P f args W H R' :=
  fun w ho => Calls.mono (h w ho) fun _ _ ⟨v, H, h1, h2, h3⟩ => ⟨v, H, h1, h2, hr _ _ h3⟩
theorem FnH.intro {P : Program} {W : World} {f : FuncId} {fn : Func} {c : Code} {n : Nat} {args : Array Value} {H : HL} {R : Value → HL → Prop} (hf : P.funcs[f]? = some fn) (hb : fn.body = some c) (hn : fn.ntmps = n) (hargs : Nat.ble args.size n = true)
    (h : CS P W n c (retQ P fn.results R) (argsE args) H) : FnH P f args W H R := by
  subst hn
  intro w0 ho0
  refine calls_of_wp hf hb (wp_mono (h _ _ (rep_start _ _ (Nat.le_of_ble_eq_true hargs)) ho0) fun x a w hq => ?_)
  obtain ⟨e, H, hr, ho, hx, vs, H', hv, hs, hR⟩ := hq
  have hv' := hv.run hr ho
  have key : a.defers = [] ∧ ∃ v, (results fn a.tmps).run P w = .ok v w ∧ ∃ v' H', Ending.returned v = .returned v' ∧ Own W w H' ∧ R v' H' := by
    refine ⟨hr.defers, one vs, ?_, one vs, H', rfl, ho.sub hs, hR⟩
    have hres : results fn a.tmps = (do
        let vs ← fn.results.mapM (resOf a.tmps)
        Pure.pure (if h : vs.size = 1 then vs[0] else .tuple vs)) := by
      unfold results
      congr 1
    rw [hres, Array.mapM_eq_mapM_toList]
    simp only [Sem.run_bind, Sem.run_map, hv', Result.andThen_ok, Sem.run_pure]
    congr 1
    match vs with
    | [] => rfl
    | [v] => rfl
    | v :: u :: l => simp [one]
  rcases hx with rfl | rfl <;> exact key
section
variable {P : Program} {W : World} {n : Nat} {ops : Array Oper} {Q : Env → HL → Prop} {rest : List Oper} {e : Env} {H : HL}
variable {d : Tmp} {ty : TypeId} {pos : String} {af : Array Edge}
theorem RS.callH {fo : Operand} {xs : Array Operand} {ats : Array TypeId} {f : FuncId} {first cap : Array Value} {argl : List Value} {R : Value → HL → Prop} (H1 : HL) (hd : Nat.blt d n = true) (hf : ev e fo = .func (.func f) first cap) (hok : callOK P f = true)
    (ha : first.toList ++ xs.toList.map (ev e) ++ cap.toList = argl) (hs : Sbp H1 H) (hc : ∀ w, Own W w H1 → FnH P f argl.toArray W H1 R) (k : ∀ v Hn, R v Hn → RS P W n ops Q rest (put e d v) Hn) :
    RS P W n ops Q (⟨some d, .call ⟨.value fo, xs, ats⟩, ty, pos, af, none⟩ :: rest) e H := by
  intro a w hr ho
  have ho := ho.sbp hs
  simp only [wpList, Region.wanted, if_true]
  left
  unfold Oper.wp
  have hrun : (execOp a.eval ⟨some d, .call ⟨.value fo, xs, ats⟩, ty, pos, af, none⟩).run P w = .ok (.enter f argl.toArray) w := by
    rw [hr.eval]
    simp only [execOp, resolve, hf, Deferred.ofValue, Sem.run_bind, Sem.run_pure, Result.andThen_ok, invoke, args_eq ha, run_callFunc hok]
  rw [hrun, Oper.upon_enter]
  refine Calls.mono (hc w ho w ho) fun x w' hx => ?_
  obtain ⟨v, Hn, rfl, h2, h3⟩ := hx
  exact k v Hn h3 _ _ (hr.put (d := some d) hd v) h2
end
end Go.Proofs.YtapcgokcfmklbaaDoor

namespace Go.Proofs.YtapcgokcfmklbaaDoor
open Go Go.RowKit

/-- none of X has come up -/
def noX (X : List Nat) (listed : Array Bool) : Bool := X.all fun x => !listed.getD x false
theorem noX_set {X : List Nat} {listed : Array Bool} {i : Nat} (h : noX X (listed.setIfInBounds i true) = true) : noX X listed = true := by
  unfold noX at *
  rw [List.all_eq_true] at h ⊢
  intro x hx
  have h1 := h x hx
  by_cases e : i = x
  · subst e
    rcases Nat.lt_or_ge i listed.size with hl | hl
    · simp [hl] at h1
    · simp [Array.getElem?_eq_none hl]
  · rw [getD_set_ne false e] at h1; exact h1
theorem noX_ne {X : List Nat} {listed : Array Bool} {j : Nat} (h : noX X listed = true) (hj : X.contains j = false) : noX X (listed.setIfInBounds j true) = true := by
  unfold noX at *
  rw [List.all_eq_true] at h ⊢
  intro x hx
  have h1 := h x hx
  have e : j ≠ x := fun e => by
    subst e
    have : X.contains j = true := by simpa using hx
    rw [this] at hj; cases hj
  rw [getD_set_ne false e]; exact h1
/-- Whatever order is picked from here on; behind each operation the world meets T, and S as long as none of X has come up. -/
def wpAny2 (P : Program) (ops : Array Oper) (Q : Exit → Act → World → Prop) (S T : World → Prop) (X : List Nat) : Nat → Array Bool → Act → World → Prop
  | 0, listed, a, w => Region.ready .any ops listed = [] ∧ Q .normal a w
  | fuel + 1, listed, a, w =>
    (Region.ready .any ops listed = [] → Q .normal a w) ∧
    ∀ i ∈ Region.ready .any ops listed, wpOp P ops Q i (fun a' w' => ((noX X (listed.setIfInBounds i true) = true → S w') ∧ T w') ∧ wpAny2 P ops Q S T X fuel (listed.setIfInBounds i true) a' w') a w
/-- each operation of X waits for i -/
def waitsX (ops : Array Oper) (X : List Nat) (i : Nat) : Bool := X.all fun j => match ops[j]? with
  | some o => o.after.any fun e => Region.binds .any e && e.on == i
  | none => true
section
variable {P : Program} {ops : Array Oper} {Q : Exit → Act → World → Prop} {S T : World → Prop} {X : List Nat}
theorem wpAny_of_2 : ∀ (fuel : Nat) (listed : Array Bool) (a : Act) (w : World), wpAny2 P ops Q S T X fuel listed a w → wpAny P .any ops Q fuel listed a w
  | 0, _, _, _, h => h
  | fuel + 1, _, _, _, h => ⟨h.1, fun i hi => wpOp_mono (fun _ _ h' => wpAny_of_2 fuel _ _ _ h'.2) (h.2 i hi)⟩
theorem waitsX_spec {i : Nat} (h : waitsX ops X i = true) {j : Nat} {o : Oper} (hj : ops[j]? = some o) (hx : X.contains j = true) : ∃ e ∈ o.after, Region.binds .any e = true ∧ e.on = i := by
  unfold waitsX at h
  have h1 := List.all_eq_true.1 h j (by simpa using hx)
  rw [hj] at h1
  obtain ⟨e, he, hb⟩ := Array.any_eq_true'.1 h1
  simp only [Bool.and_eq_true, beq_iff_eq] at hb
  exact ⟨e, he, hb.1, hb.2⟩
/-- What only reads may be taken first: 'V' is what its value leans on. -/
theorem wpAny2_first {i : Nat} {oi : Oper} {v : Value} {V : World → Prop} (hiX : X.contains i = false) (hi : ops[i]? = some oi) (hsel : ∀ (j : Nat) (o : Oper) cs b, ops[j]? = some o → o.op ≠ .select cs b)
    (hQ : ∀ c a w, Q (.panic c) (a.put oi.dst v) w → Q (.panic c) a w) :
    ∀ (fuel : Nat) (listed : Array Bool) (a : Act) (w : World), (V = T ∨ (V = S ∧ waitsX ops X i = true ∧ noX X listed = true)) →
      (∀ j oj, ops[j]? = some oj → j ≠ i → listed.getD j true = false → (∀ e ∈ oj.after, Region.binds .any e = true → e.on ≠ i) → oi.apart ops oj = true) →
      i ∈ Region.ready .any ops listed → YieldsIf P ops V oi v a → V w → (noX X listed = true → S w) → T w →
      wpAny2 P ops Q S T X fuel (listed.setIfInBounds i true) (a.put oi.dst v) w → wpAny2 P ops Q S T X (fuel + 1) listed a w := by
  intro fuel
  induction fuel with
  | zero =>
    intro listed a w _ _ hr hy hV hS hT H
    refine ⟨fun h => (by rw [h] at hr; cases hr), fun j hj => ?_⟩
    by_cases hji : j = i
    · subst hji; exact hy.wpOp hi hV ⟨⟨fun h => hS (noX_set h), hT⟩, H⟩
    · have := ready_mono hj hji
      rw [H.1] at this
      cases this
  | succ fuel ih =>
    intro listed a w hk hfree hr hy hV hS hT H
    refine ⟨fun h => (by rw [h] at hr; cases hr), fun j hj => ?_⟩
    by_cases hji : j = i
    · subst hji; exact hy.wpOp hi hV ⟨⟨fun h => hS (noX_set h), hT⟩, H⟩
    · have h1 := H.2 j (ready_mono hj hji)
      obtain ⟨hjun, oj, hoj, hall⟩ := mem_ready.1 hj
      have hnot : ∀ e ∈ oj.after, Region.binds .any e = true → e.on ≠ i := fun e he hb heq => by
        have h1 := hall e he hb
        have h0 := (mem_ready.1 hr).1
        rw [heq] at h1
        rcases Nat.lt_or_ge i listed.size with h' | h'
        · simp [h'] at h0 h1; rw [h0] at h1; cases h1
        · simp [Array.getElem?_eq_none h'] at h1
      have h2 := wpOp_putIf hoj (hfree j oj hoj hji hjun hnot) (fun cs b => hsel i oi cs b hi) (fun cs b => hsel j oj cs b hoj) hQ hy h1
      have hfree' : ∀ q ok, ops[q]? = some ok → q ≠ i → (listed.setIfInBounds j true).getD q true = false →
          (∀ e ∈ ok.after, Region.binds .any e = true → e.on ≠ i) → oi.apart ops ok = true := fun q ok hq hqi hun hno => by
        refine hfree q ok hq hqi ?_ hno
        by_cases hjq : j = q
        · subst hjq; exact hjun
        · rw [getD_set_ne true hjq] at hun; exact hun
      have hkj : V = T ∨ (V = S ∧ waitsX ops X i = true ∧ noX X (listed.setIfInBounds j true) = true) := by
        rcases hk with hk | ⟨hk, hw, hn⟩
        · exact .inl hk
        · refine .inr ⟨hk, hw, noX_ne hn ?_⟩
          cases hx : X.contains j with
          | false => rfl
          | true =>
            obtain ⟨e, he, hb, ho⟩ := waitsX_spec hw hoj hx
            exact absurd ho (hnot e he hb)
      have hcomm : (listed.setIfInBounds i true).setIfInBounds j true = (listed.setIfInBounds j true).setIfInBounds i true := Array.setIfInBounds_comm _ _ (Ne.symm hji)
      refine wpOp_mono (fun a' w' h3 => ?_) h2
      obtain ⟨hy', ⟨hS', hT'⟩, hW'⟩ := h3
      rw [hcomm] at hS' hW'
      have hSj : noX X (listed.setIfInBounds j true) = true → S w' := fun h => hS' (noX_ne h hiX)
      have hVj : V w' := by
        rcases hkj with hk | ⟨hk, _, hn⟩
        · rw [hk]; exact hT'
        · rw [hk]; exact hSj hn
      exact ⟨⟨hSj, hT'⟩, ih (listed.setIfInBounds j true) a' w' hkj hfree' (ready_mono hr (Ne.symm hji)) hy' hVj hSj hT' hW'⟩
end
/-! ### in the calculus -/
def RT2 (P : Program) (W : World) (n : Nat) (ops : Array Oper) (X : List Nat) (HS HT : HL) (Q : Env → HL → Prop) (fuel : Nat) (listed : Array Bool) (e : Env) (H : HL) : Prop :=
  Region.noSelect ops = true → (noX X listed = true → HS.Sublist H) → HT.Sublist H → ∀ a w, Rep n a e → Own W w H → wpAny2 P ops (PostN W n Q) (fun w => Own W w HS) (fun w => Own W w HT) X fuel listed a w
section
variable {P : Program} {W : World} {n : Nat} {ops : Array Oper} {X : List Nat} {HS HT H : HL} {Q : Env → HL → Prop} {fuel : Nat} {listed : Array Bool} {e : Env}
variable {d : Tmp} {op : Op} {ty : TypeId} {pos : String} {af : Array Edge} {v : Value} {i j : Nat}
theorem RT2.done (hr : Region.ready .any ops listed = []) (h : Q e H) : RT2 P W n ops X HS HT Q fuel listed e H := by
  intro _ _ _ a w hrep ho
  have hp : PostN W n Q .normal a w := ⟨e, H, hrep, ho, h⟩
  cases fuel with
  | zero => exact ⟨hr, hp⟩
  | succ f => exact ⟨fun _ => hp, by rw [hr]; simp⟩
def take2OK (ops : Array Oper) (X : List Nat) (listed : Array Bool) (i : Nat) : Bool := !X.contains i && Region.free .any ops listed i && (Region.ready .any ops listed).contains i
def take1OK (ops : Array Oper) (X : List Nat) (listed : Array Bool) (i : Nat) : Bool := take2OK ops X listed i && waitsX ops X i && noX X listed
/-- a reading of what stands until X -/
theorem RT2.take1 (hi : ops[i]? = some ⟨some d, op, ty, pos, af, none⟩) (hc : take1OK ops X listed i = true) (hd : Nat.blt d n = true) (hq : QO P W HS e op ty v)
    (h : RT2 P W n ops X HS HT Q fuel (listed.setIfInBounds i true) (put e d v) H) : RT2 P W n ops X HS HT Q (fuel + 1) listed e H := by
  intro hs hS hT a w hrep ho
  simp only [take1OK, take2OK, Bool.and_eq_true, Bool.not_eq_true'] at hc
  obtain ⟨⟨⟨⟨hx, hf⟩, hr⟩, hw⟩, hn⟩ := hc
  refine wpAny2_first (V := fun w => Own W w HS) (v := v) hx hi (Region.noSelect_spec hs) hQpanic fuel listed a w (.inr ⟨rfl, hw, hn⟩) (Region.free_spec hi hf) (by simpa using hr) ?_ (ho.sub (hS hn)) (fun h => ho.sub (hS h)) (ho.sub hT) (h hs (fun hh => hS (noX_set hh)) hT _ _ (hrep.put (d := some d) hd v) ho)
  refine .inl ⟨rfl, fun w' hw' => ?_⟩
  rw [hrep.eval]
  exact hq _ _ _ _ w' hw'
theorem RT2.take1v {v' : Value} (hi : ops[i]? = some ⟨some d, op, ty, pos, af, none⟩) (hc : take1OK ops X listed i = true) (hd : Nat.blt d n = true) (hq : QO P W HS e op ty v) (hv : v = v')
    (h : RT2 P W n ops X HS HT Q fuel (listed.setIfInBounds i true) (put e d v') H) : RT2 P W n ops X HS HT Q (fuel + 1) listed e H := by subst hv; exact RT2.take1 hi hc hd hq h
/-- a reading of what stands throughout -/
theorem RT2.take2 (hi : ops[i]? = some ⟨some d, op, ty, pos, af, none⟩) (hc : take2OK ops X listed i = true) (hd : Nat.blt d n = true) (hq : QO P W HT e op ty v)
    (h : RT2 P W n ops X HS HT Q fuel (listed.setIfInBounds i true) (put e d v) H) : RT2 P W n ops X HS HT Q (fuel + 1) listed e H := by
  intro hs hS hT a w hrep ho
  simp only [take2OK, Bool.and_eq_true, Bool.not_eq_true'] at hc
  obtain ⟨⟨hx, hf⟩, hr⟩ := hc
  refine wpAny2_first (V := fun w => Own W w HT) (v := v) hx hi (Region.noSelect_spec hs) hQpanic fuel listed a w (.inl rfl) (Region.free_spec hi hf) (by simpa using hr) ?_ (ho.sub hT) (fun h => ho.sub (hS h)) (ho.sub hT) (h hs (fun hh => hS (noX_set hh)) hT _ _ (hrep.put (d := some d) hd v) ho)
  refine .inl ⟨rfl, fun w' hw' => ?_⟩
  rw [hrep.eval]
  exact hq _ _ _ _ w' hw'
theorem RT2.take2v {v' : Value} (hi : ops[i]? = some ⟨some d, op, ty, pos, af, none⟩) (hc : take2OK ops X listed i = true) (hd : Nat.blt d n = true) (hq : QO P W HT e op ty v) (hv : v = v')
    (h : RT2 P W n ops X HS HT Q fuel (listed.setIfInBounds i true) (put e d v') H) : RT2 P W n ops X HS HT Q (fuel + 1) listed e H := by subst hv; exact RT2.take2 hi hc hd hq h
/-- the only one that may come up, before X -/
theorem RT2.one {o : Oper} (hr : Region.ready .any ops listed = [i]) (hi : ops[i]? = some o)
    (h : RS P W n ops (fun e' H' => HS.Sublist H' ∧ HT.Sublist H' ∧ RT2 P W n ops X HS HT Q fuel (listed.setIfInBounds i true) e' H') [o] e H) :
    RT2 P W n ops X HS HT Q (fuel + 1) listed e H := by
  intro hs hS hT a w hrep ho
  refine ⟨fun h0 => (by rw [hr] at h0; cases h0), fun q hq => ?_⟩
  rw [hr] at hq
  obtain rfl : q = i := by simpa using hq
  exact wpOp_mono (fun a' w' ⟨e', H', h1, h2, h3, h4, h5⟩ => ⟨⟨fun _ => h2.sub h3, h2.sub h4⟩, h5 hs (fun _ => h3) h4 a' w' h1 h2⟩) (wpOp_of_RS hi h hrep ho)
/-- the only one that may come up, of X or behind it -/
theorem RT2.oneX {o : Oper} (hr : Region.ready .any ops listed = [i]) (hi : ops[i]? = some o) (hx : noX X (listed.setIfInBounds i true) = false)
    (h : RS P W n ops (fun e' H' => HT.Sublist H' ∧ RT2 P W n ops X HS HT Q fuel (listed.setIfInBounds i true) e' H') [o] e H) :
    RT2 P W n ops X HS HT Q (fuel + 1) listed e H := by
  intro hs hS hT a w hrep ho
  refine ⟨fun h0 => (by rw [hr] at h0; cases h0), fun q hq => ?_⟩
  rw [hr] at hq
  obtain rfl : q = i := by simpa using hq
  exact wpOp_mono (fun a' w' ⟨e', H', h1, h2, h4, h5⟩ => ⟨⟨fun h => (by rw [hx] at h; cases h), h2.sub h4⟩, h5 hs (fun h => (by rw [hx] at h; cases h)) h4 a' w' h1 h2⟩) (wpOp_of_RS hi h hrep ho)
theorem CS.draw2 {l : List Oper} {id : Nat} {Q : Exit → Env → HL → Prop} (X : List Nat) {HT : HL} (hT : HT.Sublist H) (hm : P.follows .mixedOrders = true) (hs : Region.noSelect l.toArray = true)
    (h : RT2 P W n l.toArray X H HT (fun e H => Q .normal e H) l.length (Array.replicate l.length false) e H) : CS P W n (.region id l.toArray true) Q e H := by
  intro a w hr ho
  refine wp_mono (Q := PostN W n (fun e H => Q .normal e H)) (wp_region_any hm ?_) fun x a' w' hq => ?_
  · have := h hs (fun _ => List.Sublist.refl _) hT a w.drew hr ho.drew
    exact wpAny_of_2 _ _ _ _ this
  · cases x <;> simp only [PostN] at hq
    exact hq
end
end Go.Proofs.YtapcgokcfmklbaaDoor

namespace Go.Proofs.YtapcgokcfmklbaaDoor

section
variable {α : Type}
/-- the values of the first n places -/
def lst (d : Nat → α) (n : Nat) : List α := (List.range n).map d
theorem lst_len (d : Nat → α) (n : Nat) : (lst d n).length = n := by simp [lst]
theorem lst_at (d : Nat → α) {n i : Nat} (h : i < n) : (lst d n)[i]? = some (d i) := by simp [lst, h]
def updD (d : Nat → α) (i : Nat) (v : α) : Nat → α := fun k => if k = i then v else d k
theorem lst_set (d : Nat → α) {n i : Nat} (v : α) (h : i < n) : (lst d n).set i v = lst (updD d i v) n := by
  apply List.ext_getElem?
  intro k
  rw [List.getElem?_set]
  by_cases hk : k < n
  · rw [lst_at _ hk, lst_at _ hk]
    unfold updD
    by_cases e : i = k
    · subst e; rw [if_pos rfl, if_pos rfl, if_pos (by rw [lst_len]; exact h)]
    · rw [if_neg e, if_neg (Ne.symm e)]
  · rw [List.getElem?_eq_none (by rw [lst_len]; omega), List.getElem?_eq_none (by rw [lst_len]; omega), if_neg (by omega)]
/-- two places change their values -/
def swD (d : Nat → α) (i j : Nat) : Nat → α := fun k => if k = i then d j else if k = j then d i else d k
theorem swD_upd (d : Nat → α) (i j : Nat) : updD (updD d i (d j)) j (d i) = swD d i j := by
  funext k
  unfold updD swD
  by_cases h1 : k = j
  · rw [if_pos h1]
    by_cases h2 : k = i
    · rw [if_pos h2]
      have : i = j := by omega
      rw [this]
    · rw [if_neg h2, if_pos h1]
  · rw [if_neg h1]
    by_cases h2 : k = i
    · rw [if_pos h2, if_pos h2]
    · rw [if_neg h2, if_neg h2, if_neg h1]
/-- what stands in the places from a to b has moved among them -/
def Mv (n a b : Nat) (d d' : Nat → α) : Prop :=
  (∀ i, i < a ∨ b ≤ i → d' i = d i) ∧ (∀ i, a ≤ i → i < b → ∃ j, a ≤ j ∧ j < b ∧ d' i = d j) ∧ (lst d' n).Perm (lst d n)
theorem Mv.refl (n a b : Nat) (d : Nat → α) : Mv n a b d d := ⟨fun _ _ => rfl, fun i h1 h2 => ⟨i, h1, h2, rfl⟩, .refl _⟩
theorem Mv.trans {n a b : Nat} {d d' d'' : Nat → α} (h : Mv n a b d d') (k : Mv n a b d' d'') : Mv n a b d d'' := by
  refine ⟨fun i hi => (k.1 i hi).trans (h.1 i hi), fun i h1 h2 => ?_, k.2.2.trans h.2.2⟩
  obtain ⟨j, h3, h4, h5⟩ := k.2.1 i h1 h2
  obtain ⟨l, h6, h7, h8⟩ := h.2.1 j h3 h4
  exact ⟨l, h6, h7, h5.trans h8⟩
theorem Mv.mono {n a b a' b' : Nat} {d d' : Nat → α} (h : Mv n a b d d') (ha : a' ≤ a) (hb : b ≤ b') : Mv n a' b' d d' := by
  refine ⟨fun i hi => h.1 i (by omega), fun i h1 h2 => ?_, h.2.2⟩
  by_cases hi : a ≤ i ∧ i < b
  · obtain ⟨j, h3, h4, h5⟩ := h.2.1 i hi.1 hi.2
    exact ⟨j, by omega, by omega, h5⟩
  · exact ⟨i, h1, h2, h.1 i (by omega)⟩
theorem Mv.sw {n a b i j : Nat} (d : Nat → α) (hi : a ≤ i ∧ i < b) (hj : a ≤ j ∧ j < b) (hb : b ≤ n) : Mv n a b d (swD d i j) := by
  refine ⟨fun k hk => ?_, fun k h1 h2 => ?_, ?_⟩
  · unfold swD; rw [if_neg (by omega), if_neg (by omega)]
  · unfold swD
    by_cases e : k = i
    · rw [if_pos e]; exact ⟨j, hj.1, hj.2, rfl⟩
    · rw [if_neg e]
      by_cases e2 : k = j
      · rw [if_pos e2]; exact ⟨i, hi.1, hi.2, rfl⟩
      · rw [if_neg e2]; exact ⟨k, h1, h2, rfl⟩
  · have h1 : i < (lst d n).length := by rw [lst_len]; omega
    have h2 : j < (lst d n).length := by rw [lst_len]; omega
    have h3 := List.set_set_perm h1 h2
    have e1 : (lst d n)[i] = d i := by simp [lst]
    have e2 : (lst d n)[j] = d j := by simp [lst]
    rw [e1, e2, lst_set d _ (by omega), lst_set _ _ (by omega), swD_upd] at h3
    exact h3
/-! ### order -/
/-- an order in which two values may stand alike -/
structure Ord (lt : α → α → Bool) : Prop where
  trans : ∀ x y z, lt y x = false → lt z y = false → lt z x = false
  asym : ∀ x y, lt x y = true → lt y x = false
def So (lt : α → α → Bool) (a b : Nat) (d : Nat → α) : Prop := ∀ i j, a ≤ i → i < j → j < b → lt (d j) (d i) = false
variable {lt : α → α → Bool}
theorem So.mono {a b a' b' : Nat} {d : Nat → α} (h : So lt a b d) (ha : a ≤ a') (hb : b' ≤ b) : So lt a' b' d := fun i j h1 h2 h3 => h i j (by omega) h2 (by omega)
theorem So.one {a b : Nat} {d : Nat → α} (h : b ≤ a + 1) : So lt a b d := fun i j h1 h2 h3 => by omega
theorem So.same {a b : Nat} {d d' : Nat → α} (h : So lt a b d) (e : ∀ i, a ≤ i → i < b → d' i = d i) : So lt a b d' := fun i j h1 h2 h3 => by
  rw [e i h1 (by omega), e j (by omega) h3]; exact h i j h1 h2 h3
/-- parts in order, one below the other -/
theorem So.join {a m b : Nat} {d : Nat → α} (h1 : So lt a m d) (h2 : So lt m b d) (h3 : ∀ i j, a ≤ i → i < m → m ≤ j → j < b → lt (d j) (d i) = false) : So lt a b d := fun i j h4 h5 h6 => by
  by_cases e1 : j < m
  · exact h1 i j h4 h5 e1
  · by_cases e2 : i < m
    · exact h3 i j h4 e2 (by omega) h6
    · exact h2 i j (by omega) h5 h6
/-- in order but for the value at j -/
def SoX (lt : α → α → Bool) (a b j : Nat) (d : Nat → α) : Prop := ∀ p q, a ≤ p → p < q → q < b → q ≠ j → lt (d q) (d p) = false
theorem SoX.start {a i : Nat} {d : Nat → α} (h : So lt a i d) : SoX lt a (i + 1) i d := fun p q h1 h2 h3 h4 => h p q h1 h2 (by omega)
theorem SoX.step {a b j : Nat} {d : Nat → α} (ho : Ord lt) (h : SoX lt a b j d) (hj : a < j) (hb : j < b) (hl : lt (d j) (d (j - 1)) = true) : SoX lt a b (j - 1) (swD d j (j - 1)) := fun p q h1 h2 h3 h4 => by
  have ha := ho.asym _ _ hl
  unfold swD
  by_cases e1 : q = j
  · rw [if_pos e1]
    by_cases e2 : p = j - 1
    · rw [if_neg (by omega), if_pos e2]; exact ha
    · rw [if_neg (by omega), if_neg e2]; exact h p (j - 1) h1 (by omega) (by omega) (by omega)
  · rw [if_neg e1, if_neg h4]
    by_cases e2 : p = j
    · rw [if_pos e2]; exact h (j - 1) q (by omega) (by omega) h3 e1
    · rw [if_neg e2]
      by_cases e3 : p = j - 1
      · rw [if_pos e3]; exact h j q (by omega) (by omega) h3 e1
      · rw [if_neg e3]; exact h p q h1 h2 h3 e1
theorem SoX.done {a b j : Nat} {d : Nat → α} (ho : Ord lt) (h : SoX lt a b j d) (hx : j ≤ a ∨ lt (d j) (d (j - 1)) = false) : So lt a b d := fun p q h1 h2 h3 => by
  by_cases e : q = j
  · subst e
    rcases hx with hx | hx
    · omega
    · by_cases e2 : p = q - 1
      · rw [e2]; exact hx
      · exact ho.trans _ _ _ (h p (q - 1) h1 (by omega) (by omega) (by omega)) hx
  · exact h p q h1 h2 h3 e
/-! ### turning about -/
/-- n values from a on and n from b on change places -/
def swR (d : Nat → α) (a b n : Nat) : Nat → α := fun p => if a ≤ p ∧ p < a + n then d (p - a + b) else if b ≤ p ∧ p < b + n then d (p - b + a) else d p
theorem swR_0 (d : Nat → α) (a b : Nat) : swR d a b 0 = d := by
  funext p
  unfold swR
  rw [if_neg (by omega), if_neg (by omega)]
theorem swR_succ (d : Nat → α) {a b t : Nat} (h : a + t < b) : swD (swR d a b t) (a + t) (b + t) = swR d a b (t + 1) := by
  funext p
  unfold swD swR
  by_cases e1 : p = a + t
  · rw [if_pos e1, if_neg (by omega), if_neg (by omega), if_pos (by omega)]
    congr 1; omega
  · rw [if_neg e1]
    by_cases e2 : p = b + t
    · rw [if_pos e2, if_neg (by omega), if_neg (by omega), if_neg (by omega), if_pos (by omega)]
      congr 1; omega
    · rw [if_neg e2]
      by_cases e3 : a ≤ p ∧ p < a + t
      · rw [if_pos e3, if_pos (by omega)]
      · rw [if_neg e3, if_neg (show ¬ (a ≤ p ∧ p < a + (t + 1)) by omega)]
        by_cases e4 : b ≤ p ∧ p < b + t
        · rw [if_pos e4, if_pos (by omega)]
        · rw [if_neg e4, if_neg (by omega)]
theorem swR_mv (n : Nat) (d : Nat → α) {a b lo hi : Nat} : ∀ t, a + t ≤ b → lo ≤ a → b + t ≤ hi → hi ≤ n → Mv n lo hi d (swR d a b t)
  | 0, _, _, _, _ => by rw [swR_0]; exact Mv.refl _ _ _ _
  | t + 1, h1, h2, h3, h4 => by
    rw [← swR_succ d (by omega)]
    exact (swR_mv n d t (by omega) h2 (by omega) h4).trans (Mv.sw _ (by omega) (by omega) h4)
/-- the values from a to m behind those from m to b -/
def rotD (d : Nat → α) (a m b : Nat) : Nat → α := fun p => if a ≤ p ∧ p < a + (b - m) then d (p + (m - a)) else if a + (b - m) ≤ p ∧ p < b then d (p - (b - m)) else d p
theorem rot_eq (d : Nat → α) {m i : Nat} (h : i ≤ m) : swR d (m - i) m i = rotD d (m - i) m (m + i) := by
  funext p
  unfold swR rotD
  by_cases e1 : m - i ≤ p ∧ p < m - i + i
  · rw [if_pos e1, if_pos (by omega)]; congr 1; omega
  · rw [if_neg e1, if_neg (show ¬ (m - i ≤ p ∧ p < m - i + (m + i - m)) by omega)]
    by_cases e2 : m ≤ p ∧ p < m + i
    · rw [if_pos e2, if_pos (by omega)]; congr 1; omega
    · rw [if_neg e2, if_neg (by omega)]
theorem rot_gt (d : Nat → α) {m i j : Nat} (hi : i ≤ m) (hj : j < i) : rotD (swR d (m - i) m j) (m - (i - j)) m (m + j) = rotD d (m - i) m (m + j) := by
  funext p
  unfold rotD
  by_cases e1 : m - (i - j) ≤ p ∧ p < m - (i - j) + (m + j - m)
  · rw [if_pos e1]
    unfold swR
    rw [if_neg (by omega), if_pos (by omega), if_neg (by omega), if_pos (by omega)]
    congr 1; omega
  · rw [if_neg e1]
    by_cases e2 : m - (i - j) + (m + j - m) ≤ p ∧ p < m + j
    · rw [if_pos e2]
      unfold swR
      rw [if_neg (by omega), if_neg (by omega), if_neg (by omega), if_pos (by omega)]
    · rw [if_neg e2]
      unfold swR
      by_cases e3 : m - i ≤ p ∧ p < m - i + j
      · rw [if_pos e3, if_pos (by omega)]; congr 1; omega
      · rw [if_neg e3, if_neg (by omega), if_neg (by omega), if_neg (by omega)]
theorem rot_lt (d : Nat → α) {m i j : Nat} (hi : i ≤ m) (hj : i < j) : rotD (swR d (m - i) (m + j - i) i) (m - i) m (m + (j - i)) = rotD d (m - i) m (m + j) := by
  funext p
  unfold rotD
  by_cases e1 : m - i ≤ p ∧ p < m - i + (m + (j - i) - m)
  · rw [if_pos e1, if_pos (by omega)]
    unfold swR
    rw [if_neg (by omega), if_neg (by omega)]
  · rw [if_neg e1]
    by_cases e2 : m - i + (m + (j - i) - m) ≤ p ∧ p < m + (j - i)
    · rw [if_pos e2]
      by_cases e3 : p < m - i + j
      · rw [if_pos (by omega)]
        unfold swR
        by_cases e4 : m - i ≤ p - (m + (j - i) - m) ∧ p - (m + (j - i) - m) < m - i + i
        · rw [if_pos e4]; congr 1; omega
        · exfalso; omega
      · exfalso; omega
    · rw [if_neg e2]
      unfold swR
      by_cases e3 : m + j - i ≤ p ∧ p < m + j - i + i
      · rw [if_neg (by omega), if_pos e3, if_neg (by omega), if_pos (by omega)]; congr 1; omega
      · rw [if_neg (by omega), if_neg e3, if_neg (by omega), if_neg (by omega)]
/-! ### merging -/
theorem rot_so {a s m e b c : Nat} {d : Nat → α} (ho : Ord lt) (h1 : So lt a m d) (h2 : So lt m b d) (hs : a ≤ s ∧ s ≤ m) (he : m ≤ e ∧ e ≤ b) (hc : c = s + (e - m))
    (hA : a < s → e < b → lt (d e) (d (s - 1)) = false) (hB : s < m → m < e → lt (d s) (d (e - 1)) = false) :
    So lt a s (rotD d s m e) ∧ So lt s c (rotD d s m e) ∧ So lt c e (rotD d s m e) ∧ So lt e b (rotD d s m e) ∧
      ∀ i j, a ≤ i → i < c → c ≤ j → j < b → lt (rotD d s m e j) (rotD d s m e i) = false := by
  subst hc
  have g1 : ∀ p, p < s → rotD d s m e p = d p := fun p hp => by unfold rotD; rw [if_neg (by omega), if_neg (by omega)]
  have g2 : ∀ p, s ≤ p → p < s + (e - m) → rotD d s m e p = d (p + (m - s)) := fun p hp hq => by unfold rotD; rw [if_pos ⟨hp, hq⟩]
  have g3 : ∀ p, s + (e - m) ≤ p → p < e → rotD d s m e p = d (p - (e - m)) := fun p hp hq => by unfold rotD; rw [if_neg (by omega), if_pos ⟨hp, hq⟩]
  have g4 : ∀ p, e ≤ p → rotD d s m e p = d p := fun p hp => by unfold rotD; rw [if_neg (by omega), if_neg (by omega)]
  have rf : ∀ x : α, lt x x = false := fun x => by
    cases hx : lt x x
    · rfl
    · exact (ho.asym _ _ hx).symm.trans hx |>.symm ▸ rfl
  -- within a part, also a value beside itself
  have le1 : ∀ p q, a ≤ p → p ≤ q → q < m → lt (d q) (d p) = false := fun p q hp hq hm => by
    by_cases x : p = q
    · rw [x]; exact rf _
    · exact h1 p q hp (by omega) hm
  have le2 : ∀ p q, m ≤ p → p ≤ q → q < b → lt (d q) (d p) = false := fun p q hp hq hm => by
    by_cases x : p = q
    · rw [x]; exact rf _
    · exact h2 p q hp (by omega) hm
  refine ⟨?_, ?_, ?_, ?_, ?_⟩
  · exact (h1.mono (Nat.le_refl _) hs.2).same fun i _ hi => g1 i hi
  · intro i j k1 k2 k3
    rw [g2 i k1 (by omega), g2 j (by omega) k3]
    exact h2 _ _ (by omega) (by omega) (by omega)
  · intro i j k1 k2 k3
    rw [g3 i k1 (by omega), g3 j (by omega) k3]
    exact h1 _ _ (by omega) (by omega) (by omega)
  · exact (h2.mono he.1 (Nat.le_refl _)).same fun i hi _ => g4 i hi
  · intro i j k1 k2 k3 k4
    by_cases x1 : i < s
    · rw [g1 i x1]
      by_cases y1 : j < e
      · rw [g3 j k3 y1]; exact le1 _ _ k1 (by omega) (by omega)
      · rw [g4 j (by omega)]
        exact ho.trans _ _ _ (ho.trans _ _ _ (le1 i (s - 1) k1 (by omega) (by omega)) (hA (by omega) (by omega))) (le2 e j he.1 (by omega) k4)
    · rw [g2 i (by omega) k2]
      by_cases y1 : j < e
      · rw [g3 j k3 y1]
        exact ho.trans _ _ _ (ho.trans _ _ _ (le2 (i + (m - s)) (e - 1) (by omega) (by omega) (by omega)) (hB (by omega) (by omega))) (le1 s (j - (e - m)) hs.1 (by omega) (by omega))
      · rw [g4 j (by omega)]; exact le2 _ _ (by omega) (by omega) k4
/-- what moved within a part keeps what was said of all its values -/
theorem Mv.all {n a b : Nat} {d d' : Nat → α} (h : Mv n a b d d') {P : α → Prop} (hp : ∀ i, a ≤ i → i < b → P (d i)) : ∀ i, a ≤ i → i < b → P (d' i) := fun i h1 h2 => by
  obtain ⟨j, h3, h4, h5⟩ := h.2.1 i h1 h2
  rw [h5]; exact hp j h3 h4
theorem So.cross {n a c b : Nat} {d d1 d2 : Nat → α} (hx : ∀ i j, a ≤ i → i < c → c ≤ j → j < b → lt (d j) (d i) = false) (m1 : Mv n a c d d1) (m2 : Mv n c b d1 d2) :
    ∀ i j, a ≤ i → i < c → c ≤ j → j < b → lt (d2 j) (d2 i) = false := fun i j h1 h2 h3 h4 => by
  rw [m2.1 i (.inl h2)]
  obtain ⟨k, h5, h6, h7⟩ := m2.2.1 j h3 h4
  obtain ⟨l, h8, h9, h10⟩ := m1.2.1 i h1 h2
  rw [h7, h10, m1.1 k (.inr h5)]
  exact hx l k h8 h9 h5 h6
/-- in order, the same values: the same row -/
theorem So.eq {n : Nat} {d d' : Nat → α} (ha : ∀ x y, lt x y = false → lt y x = false → x = y) (h : So lt 0 n d) (h' : So lt 0 n d') (hp : (lst d n).Perm (lst d' n)) : lst d n = lst d' n := by
  have pw : ∀ {f : Nat → α}, So lt 0 n f → (lst f n).Pairwise (fun x y => lt y x = false) := fun {f} hf => by
    unfold lst
    rw [List.pairwise_map]
    refine List.Pairwise.imp_of_mem ?_ List.pairwise_lt_range
    intro i j hi hj hij
    exact hf i j (Nat.zero_le _) hij (List.mem_range.1 hj)
  exact List.Perm.eq_of_pairwise (fun x y _ _ h1 h2 => ha x y h2 h1) (pw h) (pw h') hp
end
end Go.Proofs.YtapcgokcfmklbaaDoor

namespace Go.Proofs.YtapcgokcfmklbaaDoor
open Go

/-- folding over sorted lists of the same elements -/
theorem foldl_out {α β : Type} (step : β → α → β) (x : α) : ∀ (A : List α) (b : β), (∀ a ∈ A, ∀ b, step (step b a) x = step (step b x) a) → (A ++ [x]).foldl step b = (x :: A).foldl step b
  | [], b, _ => rfl
  | a :: A, b, h => by
    have ih := foldl_out step x A (step b a) (fun q hq => h q (by simp [hq]))
    simp only [List.cons_append, List.foldl_cons] at ih ⊢
    rw [ih, h a (by simp) b]
theorem foldl_sorted {α β : Type} (lt : α → α → Bool) (P : α → Prop) (step : β → α → β) (hc : ∀ b x y, P x → P y → lt x y = false → lt y x = false → step (step b x) y = step (step b y) x) (hr : ∀ x, lt x x = false) :
    ∀ (l m : List α) (b : β), l.Perm m → (∀ x ∈ l, P x) → l.Pairwise (fun x y => lt y x = false) → m.Pairwise (fun x y => lt y x = false) → l.foldl step b = m.foldl step b
  | [], m, b, hp, _, _, _ => by rw [List.Perm.nil_eq hp]
  | x :: l, m, b, hp, hP, h1, h2 => by
    obtain ⟨A, B, rfl⟩ := List.append_of_mem (hp.subset (List.mem_cons_self ..))
    obtain ⟨h3, h4⟩ := List.pairwise_cons.1 h1
    rw [List.pairwise_append] at h2
    obtain ⟨h5, h6, h7⟩ := h2
    have hA : ∀ a ∈ A, a = x ∨ a ∈ l := fun a ha => by
      have := hp.symm.subset (List.mem_append_left _ ha)
      simpa using this
    have hcomm : ∀ a ∈ A, ∀ b, step (step b a) x = step (step b x) a := fun a ha b => by
      have q1 : lt x a = false := h7 a ha x (by simp)
      have q2 : lt a x = false := by
        rcases hA a ha with rfl | h
        · exact hr a
        · exact h3 a h
      have q3 : P a := by
        rcases hA a ha with rfl | h
        · exact hP _ (by simp)
        · exact hP a (by simp [h])
      exact hc b a x q3 (hP x (by simp)) q2 q1
    have e1 : (A ++ x :: B).foldl step b = (x :: (A ++ B)).foldl step b := by
      rw [show A ++ x :: B = (A ++ [x]) ++ B by simp, List.foldl_append, foldl_out step x A b hcomm]
      simp [List.foldl_append]
    rw [e1, List.foldl_cons, List.foldl_cons]
    have hp' : l.Perm (A ++ B) := by
      have := hp.trans List.perm_middle
      exact List.perm_cons x |>.1 this
    refine foldl_sorted lt P step hc hr l (A ++ B) (step b x) hp' (fun y hy => hP y (by simp [hy])) h4 ?_
    rw [List.pairwise_append]
    exact ⟨h5, (List.pairwise_cons.1 h6).2, fun a ha c hc' => h7 a ha c (by simp [hc'])⟩

/-- what is fetched of a reel -/
structure Pl where
  reel : List UInt8
  i : Int
  o : Int
instance instInhPl : Inhabited Pl := ⟨⟨[], 0, 0⟩⟩
def mstep (out : List Pl) (p : Pl) : List Pl := match out.getLast? with
  | some q => if q.reel = p.reel ∧ p.i ≤ q.o then out.dropLast ++ [⟨q.reel, q.i, max q.o p.o⟩] else out ++ [p]
  | none => out ++ [p]
def mrg (l : List Pl) : List Pl := l.foldl mstep []
theorem mstep_last (out : List Pl) (q p : Pl) : mstep (out ++ [q]) p = if q.reel = p.reel ∧ p.i ≤ q.o then out ++ [⟨q.reel, q.i, max q.o p.o⟩] else out ++ [q] ++ [p] := by
  unfold mstep
  rw [List.getLast?_append, List.getLast?_singleton, Option.some_or, List.dropLast_append_of_ne_nil (by simp)]
  simp
theorem mstep_nil (p : Pl) : mstep [] p = [p] := rfl
theorem list_last {α : Type} (l : List α) : l = [] ∨ ∃ m q, l = m ++ [q] := by
  rcases List.eq_nil_or_concat l with h | ⟨m, q, h⟩
  · exact .inl h
  · exact .inr ⟨m, q, by simpa using h⟩
theorem mstep_comm (out : List Pl) (x y : Pl) (h1 : x.i ≤ x.o) (h2 : y.i ≤ y.o) (hr : x.reel = y.reel) (hi : x.i = y.i) : mstep (mstep out x) y = mstep (mstep out y) x := by
  have both : ∀ (m : List Pl), mstep (m ++ [x]) y = mstep (m ++ [y]) x := fun m => by
    rw [mstep_last, mstep_last, if_pos ⟨hr, by omega⟩, if_pos ⟨hr.symm, by omega⟩, hr, hi, Int.max_comm]
  rcases list_last out with rfl | ⟨m, q, rfl⟩
  · exact both []
  · by_cases h : q.reel = x.reel ∧ x.i ≤ q.o
    · rw [mstep_last m q x, mstep_last m q y, if_pos h, if_pos ⟨h.1.trans hr, by omega⟩, mstep_last, mstep_last,
        if_pos (show (⟨q.reel, q.i, max q.o x.o⟩ : Pl).reel = y.reel ∧ y.i ≤ max q.o x.o from ⟨h.1.trans hr, by omega⟩),
        if_pos (show (⟨q.reel, q.i, max q.o y.o⟩ : Pl).reel = x.reel ∧ x.i ≤ max q.o y.o from ⟨h.1, by omega⟩)]
      have : max (max q.o x.o) y.o = max (max q.o y.o) x.o := by omega
      simp only [this]
    · rw [mstep_last m q x, mstep_last m q y, if_neg h, if_neg (fun hh => h ⟨hh.1.trans hr.symm, by omega⟩)]
      exact both _
/-- the last that was fetched is of the last reel -/
theorem mstep_reel (out : List Pl) (p : Pl) : ∃ m q, mstep out p = m ++ [q] ∧ q.reel = p.reel := by
  rcases list_last out with rfl | ⟨m, q, rfl⟩
  · exact ⟨[], p, rfl, rfl⟩
  · rw [mstep_last]
    split
    · rename_i h; exact ⟨m, _, rfl, h.1⟩
    · exact ⟨m ++ [q], p, rfl, rfl⟩
theorem mrg_app (l : List Pl) (p : Pl) : mrg (l ++ [p]) = mstep (mrg l) p := by
  unfold mrg; rw [List.foldl_append]; rfl
theorem mrg_reel (l : List Pl) (p : Pl) : ∃ m q, mrg (l ++ [p]) = m ++ [q] ∧ q.reel = p.reel := by
  rw [mrg_app]; exact mstep_reel _ _
theorem mrg_reel' {l : List Pl} (h : l ≠ []) : ∃ p ∈ l, ∃ m q, mrg l = m ++ [q] ∧ q.reel = p.reel := by
  rcases list_last l with rfl | ⟨m, p, rfl⟩
  · exact absurd rfl h
  · obtain ⟨m', q, h1, h2⟩ := mrg_reel m p
    exact ⟨p, by simp, m', q, h1, h2⟩
theorem mrg_len_le : ∀ (l : List Pl), (mrg l).length ≤ l.length := by
  intro l
  suffices h : ∀ (l out : List Pl), (l.foldl mstep out).length ≤ out.length + l.length by
    have := h l []
    simpa [mrg] using this
  intro l
  induction l with
  | nil => intro out; simp
  | cons p l ih =>
    intro out
    have h1 := ih (mstep out p)
    have h2 : (mstep out p).length ≤ out.length + 1 := by
      rcases list_last out with rfl | ⟨m, q, rfl⟩
      · simp [mstep_nil]
      · rw [mstep_last]
        split <;> simp
    simp only [List.foldl_cons, List.length_cons]
    omega
/-- a frame of a reel is covered -/
def hasF (l : List Pl) (r : List UInt8) (n : Int) : Prop := ∃ q ∈ l, q.reel = r ∧ q.i ≤ n ∧ n < q.o
theorem mstep_has {out : List Pl} {p : Pl} {r : List UInt8} {n : Int} (h : hasF out r n ∨ (p.reel = r ∧ p.i ≤ n ∧ n < p.o)) (hp : ∀ q ∈ out, q.reel = p.reel → q.i ≤ p.i) : hasF (mstep out p) r n := by
  rcases list_last out with rfl | ⟨m, q, rfl⟩
  · rcases h with ⟨q, hq, _⟩ | h
    · simp at hq
    · exact ⟨p, by simp [mstep_nil], h⟩
  · rw [mstep_last]
    split
    · rename_i hc
      rcases h with ⟨q', hq', h1, h2, h3⟩ | ⟨h1, h2, h3⟩
      · rcases List.mem_append.1 hq' with hm | hm
        · exact ⟨q', by simp [hm], h1, h2, h3⟩
        · obtain rfl := List.mem_singleton.1 hm
          exact ⟨⟨q'.reel, q'.i, max q'.o p.o⟩, by simp, h1, h2, by show n < max q'.o p.o; omega⟩
      · have := hp q (by simp) hc.1
        exact ⟨⟨q.reel, q.i, max q.o p.o⟩, by simp, by rw [← h1]; exact hc.1, by show q.i ≤ n; omega, by show n < max q.o p.o; omega⟩
    · rcases h with ⟨q', hq', h1⟩ | h
      · exact ⟨q', List.mem_append_left _ hq', h1⟩
      · exact ⟨p, by simp, h⟩
/-- each element's beginning is that of an element of the list -/
theorem mrg_beg : ∀ (l : List Pl) (q : Pl), q ∈ mrg l → ∃ p ∈ l, p.reel = q.reel ∧ p.i = q.i := by
  suffices h : ∀ (l out all : List Pl), (∀ q ∈ out, ∃ p ∈ all, p.reel = q.reel ∧ p.i = q.i) → (∀ p ∈ l, p ∈ all) → ∀ q ∈ l.foldl mstep out, ∃ p ∈ all, p.reel = q.reel ∧ p.i = q.i by
    intro l q hq
    exact h l [] l (by simp) (fun p hp => hp) q hq
  intro l
  induction l with
  | nil => intro out all h1 _; exact h1
  | cons p l ih =>
    intro out all h1 h2
    refine ih (mstep out p) all (fun q hq => ?_) (fun x hx => h2 x (by simp [hx]))
    rcases list_last out with rfl | ⟨m, u, rfl⟩
    · simp only [mstep_nil, List.mem_singleton] at hq
      subst hq
      exact ⟨q, h2 q (by simp), rfl, rfl⟩
    · rw [mstep_last] at hq
      split at hq
      · rcases List.mem_append.1 hq with hm | hm
        · exact h1 q (by simp [hm])
        · obtain rfl := List.mem_singleton.1 hm
          obtain ⟨w, hw1, hw2⟩ := h1 u (by simp)
          exact ⟨w, hw1, hw2⟩
      · rcases List.mem_append.1 hq with hm | hm
        · exact h1 q hm
        · obtain rfl := List.mem_singleton.1 hm
          exact ⟨q, h2 q (by simp), rfl, rfl⟩
/-- what an element covers is covered by what is merged, if the list is sorted -/
theorem mrg_has {l : List Pl} (hs : l.Pairwise (fun x y => x.reel = y.reel → x.i ≤ y.i)) {p : Pl} (hp : p ∈ l) {n : Int} (h1 : p.i ≤ n) (h2 : n < p.o) : hasF (mrg l) p.reel n := by
  suffices h : ∀ (l2 l1 : List Pl), (l1 ++ l2).Pairwise (fun x y => x.reel = y.reel → x.i ≤ y.i) → (hasF (mrg l1) p.reel n ∨ p ∈ l2) → hasF (mrg (l1 ++ l2)) p.reel n by
    exact h l [] (by simpa using hs) (.inr hp)
  intro l2
  induction l2 with
  | nil =>
    intro l1 _ h
    rcases h with h | h
    · simpa using h
    · simp at h
  | cons x l2 ih =>
    intro l1 hs h
    rw [show l1 ++ x :: l2 = (l1 ++ [x]) ++ l2 by simp] at hs ⊢
    refine ih (l1 ++ [x]) hs ?_
    have hb : ∀ q ∈ mrg l1, q.reel = x.reel → q.i ≤ x.i := fun q hq hr => by
      obtain ⟨w, hw1, hw2, hw3⟩ := mrg_beg l1 q hq
      have := (List.pairwise_append.1 (List.pairwise_append.1 hs).1).2.2 w hw1 x (by simp) (hw2.trans hr)
      omega
    rw [mrg_app]
    rcases h with h | h
    · exact .inl (mstep_has (.inl h) hb)
    · rcases List.mem_cons.1 h with rfl | h
      · exact .inl (mstep_has (.inr ⟨rfl, h1, h2⟩) hb)
      · exact .inr h
end Go.Proofs.YtapcgokcfmklbaaDoor

namespace Go.Proofs.YtapcgokcfmklbaaDoor
section
variable {α : Type} {lt : α → α → Bool}
theorem rot_triv (d : Nat → α) {s m e : Nat} (hs : s ≤ m) (he : m ≤ e) (h : s = m ∨ e = m) : rotD d s m e = d := by
  funext p
  unfold rotD
  by_cases e1 : s ≤ p ∧ p < s + (e - m)
  · rw [if_pos e1]; congr 1; omega
  · rw [if_neg e1]
    by_cases e2 : s + (e - m) ≤ p ∧ p < e
    · rw [if_pos e2]; congr 1; omega
    · rw [if_neg e2]
theorem rot_up (d : Nat → α) (a k : Nat) (h : a ≤ k) : swD (rotD d a (a + 1) (k + 1)) k (k + 1) = rotD d a (a + 1) (k + 2) := by
  funext p
  unfold swD
  by_cases e1 : p = k
  · rw [if_pos e1]
    unfold rotD
    rw [if_neg (by omega), if_neg (by omega), if_pos (by omega)]
    congr 1; omega
  · rw [if_neg e1]
    by_cases e2 : p = k + 1
    · rw [if_pos e2]
      unfold rotD
      rw [if_neg (by omega), if_pos (by omega), if_neg (by omega), if_pos (by omega)]
      congr 1; omega
    · rw [if_neg e2]
      unfold rotD
      by_cases e3 : a ≤ p ∧ p < a + (k + 1 - (a + 1))
      · rw [if_pos e3, if_pos (by omega)]
      · rw [if_neg e3, if_neg (by omega), if_neg (by omega), if_neg (by omega)]
theorem rot_dn (d : Nat → α) (m k : Nat) (h : k + 1 ≤ m) : swD (rotD d (k + 1) m (m + 1)) (k + 1) k = rotD d k m (m + 1) := by
  funext p
  unfold swD
  by_cases e1 : p = k + 1
  · rw [if_pos e1]
    unfold rotD
    rw [if_neg (by omega), if_neg (by omega), if_neg (by omega), if_pos (by omega)]
    congr 1; omega
  · rw [if_neg e1]
    by_cases e2 : p = k
    · rw [if_pos e2]
      unfold rotD
      rw [if_pos (by omega), if_pos (by omega)]
      congr 1; omega
    · rw [if_neg e2]
      unfold rotD
      by_cases e3 : k + 1 + (m + 1 - m) ≤ p ∧ p < m + 1
      · rw [if_neg (by omega), if_pos e3, if_neg (by omega), if_pos (by omega)]
      · rw [if_neg (by omega), if_neg e3, if_neg (by omega), if_neg (by omega)]
theorem rot_mv (n m : Nat) : ∀ (k i j : Nat) (d : Nat → α), i + j ≤ k → 1 ≤ i → 1 ≤ j → i ≤ m → m + j ≤ n → Mv n (m - i) (m + j) d (rotD d (m - i) m (m + j))
  | 0, i, j, d, h, h1, _, _, _ => by omega
  | k + 1, i, j, d, h, h1, h2, h3, h4 => by
    rcases Nat.lt_trichotomy i j with e | e | e
    · rw [← rot_lt d h3 e]
      exact (swR_mv n d i (by omega) (Nat.le_refl _) (by omega) h4).trans ((rot_mv n m k i (j - i) _ (by omega) h1 (by omega) h3 (by omega)).mono (Nat.le_refl _) (by omega))
    · subst e
      rw [← rot_eq d h3]
      exact swR_mv n d i (by omega) (Nat.le_refl _) (Nat.le_refl _) h4
    · rw [← rot_gt d h3 e]
      exact (swR_mv n d j (by omega) (Nat.le_refl _) (Nat.le_refl _) h4).trans ((rot_mv n m k (i - j) j _ (by omega) (by omega) h2 (by omega) h4).mono (by omega) (Nat.le_refl _))
theorem rotM {n a s m e b : Nat} (d : Nat → α) (h1 : a ≤ s) (h2 : s ≤ m) (h3 : m ≤ e) (h4 : e ≤ b) (h5 : b ≤ n) : Mv n a b d (rotD d s m e) := by
  by_cases h : s = m ∨ e = m
  · rw [rot_triv d h2 h3 h]; exact Mv.refl _ _ _ _
  · have := rot_mv n m (m - s + (e - m)) (m - s) (e - m) d (Nat.le_refl _) (by omega) (by omega) (by omega) (by omega)
    rw [show m - (m - s) = s by omega, show m + (e - m) = e by omega] at this
    exact this.mono h1 h4
theorem Ord.refl (ho : Ord lt) (x : α) : lt x x = false := by
  cases hx : lt x x
  · rfl
  · have := ho.asym _ _ hx
    rw [hx] at this
    exact this
/-- one value put into its place among those behind it -/
theorem mergeA {a m b i : Nat} {d : Nat → α} (ho : Ord lt) (hm : m = a + 1) (h2 : So lt m b d) (hi : m ≤ i ∧ i ≤ b) (h3 : m < i → lt (d (i - 1)) (d a) = true) (h4 : i < b → lt (d i) (d a) = false) : So lt a b (rotD d a m i) := by
  subst hm
  have g2 : ∀ p, a ≤ p → p + 1 < i → rotD d a (a + 1) i p = d (p + 1) := fun p hp hq => by
    unfold rotD; rw [if_pos (by omega)]; congr 1; omega
  have g3 : rotD d a (a + 1) i (i - 1) = d a := by
    unfold rotD; rw [if_neg (by omega), if_pos (by omega)]; congr 1; omega
  have g4 : ∀ p, i ≤ p → rotD d a (a + 1) i p = d p := fun p hp => by unfold rotD; rw [if_neg (by omega), if_neg (by omega)]
  have up : ∀ q, i ≤ q → q < b → lt (d q) (d a) = false := fun q hq hb => by
    by_cases e : q = i
    · rw [e]; exact h4 (by omega)
    · exact ho.trans _ _ _ (h4 (by omega)) (h2 i q hi.1 (by omega) hb)
  have dn : ∀ q, a + 1 ≤ q → q < i → lt (d a) (d q) = false := fun q hq hb => by
    have h5 := ho.asym _ _ (h3 (by omega))
    by_cases e : q = i - 1
    · rw [e]; exact h5
    · exact ho.trans _ _ _ (h2 q (i - 1) hq (by omega) (by omega)) h5
  intro p q hp hpq hq
  by_cases e1 : p + 1 < i
  · rw [g2 p hp e1]
    by_cases e2 : q + 1 < i
    · rw [g2 q (by omega) e2]; exact h2 _ _ (by omega) (by omega) (by omega)
    · by_cases e3 : q = i - 1
      · rw [e3, g3]; exact dn _ (by omega) (by omega)
      · rw [g4 q (by omega)]; exact h2 _ _ (by omega) (by omega) hq
  · by_cases e2 : p = i - 1
    · rw [e2, g3, g4 q (by omega)]; exact up q (by omega) hq
    · rw [g4 p (by omega), g4 q (by omega)]; exact h2 p q (by omega) hpq hq
/-- one value put into its place among those ahead of it -/
theorem mergeB {a m b i : Nat} {d : Nat → α} (ho : Ord lt) (hm : b = m + 1) (h1 : So lt a m d) (hi : a ≤ i ∧ i ≤ m) (h3 : a < i → lt (d m) (d (i - 1)) = false) (h4 : i < m → lt (d m) (d i) = true) : So lt a b (rotD d i m b) := by
  subst hm
  have g1 : ∀ p, p < i → rotD d i m (m + 1) p = d p := fun p hp => by unfold rotD; rw [if_neg (by omega), if_neg (by omega)]
  have g2 : rotD d i m (m + 1) i = d m := by
    unfold rotD; rw [if_pos (by omega)]; congr 1; omega
  have g3 : ∀ p, i < p → p ≤ m → rotD d i m (m + 1) p = d (p - 1) := fun p hp hq => by
    unfold rotD; rw [if_neg (by omega), if_pos (by omega)]; congr 1; omega
  have dn : ∀ q, a ≤ q → q < i → lt (d m) (d q) = false := fun q hq hb => by
    by_cases e : q = i - 1
    · rw [e]; exact h3 (by omega)
    · exact ho.trans _ _ _ (h1 q (i - 1) hq (by omega) (by omega)) (h3 (by omega))
  have up : ∀ q, i ≤ q → q < m → lt (d q) (d m) = false := fun q hq hb => by
    have h5 := ho.asym _ _ (h4 (by omega))
    by_cases e : q = i
    · rw [e]; exact h5
    · exact ho.trans _ _ _ h5 (h1 i q hi.1 (by omega) hb)
  intro p q hp hpq hq
  by_cases e1 : p < i
  · rw [g1 p e1]
    by_cases e2 : q < i
    · rw [g1 q e2]; exact h1 p q hp hpq (by omega)
    · by_cases e3 : q = i
      · rw [e3, g2]; exact dn p hp e1
      · rw [g3 q (by omega) (by omega)]; exact h1 p (q - 1) hp (by omega) (by omega)
  · by_cases e2 : p = i
    · rw [e2, g2, g3 q (by omega) (by omega)]; exact up (q - 1) (by omega) (by omega)
    · rw [g3 p (by omega) (by omega), g3 q (by omega) (by omega)]; exact h1 (p - 1) (q - 1) (by omega) (by omega) (by omega)
/-- what a merge comes to, when both halves are merged -/
theorem mergeC {n a s m e b c : Nat} {d d2 d3 : Nat → α} (ho : Ord lt) (h1 : So lt a m d) (h2 : So lt m b d) (hs : a ≤ s ∧ s ≤ m) (he : m ≤ e ∧ e ≤ b) (hc : c = s + (e - m))
    (hA : a < s → e < b → lt (d e) (d (s - 1)) = false) (hB : s < m → m < e → lt (d s) (d (e - 1)) = false)
    (m1 : Mv n a c (rotD d s m e) d2) (s1 : So lt a c d2) (m2 : Mv n c b d2 d3) (s2 : So lt c b d3) : So lt a b d3 := by
  have h := (rot_so ho h1 h2 hs he hc hA hB).2.2.2.2
  refine So.join (m := c) (s1.same fun i _ hi => m2.1 i (.inl hi)) s2 (So.cross h m1 m2)
/-- blocks in order -/
def Bs (lt : α → α → Bool) (bs n : Nat) (d : Nat → α) : Prop := ∀ q, So lt (q * bs) (min ((q + 1) * bs) n) d
theorem Bs.done {bs n : Nat} {d : Nat → α} (h : Bs lt bs n d) (hb : n ≤ bs) : So lt 0 n d := by
  have := h 0
  rw [Nat.zero_mul, Nat.zero_add, Nat.one_mul, Nat.min_eq_right hb] at this
  exact this
/-- the blocks ahead of q in order, in blocks of bs -/
def Bq (lt : α → α → Bool) (bs q : Nat) (d : Nat → α) : Prop := ∀ p, p < q → So lt (p * bs) ((p + 1) * bs) d
theorem Bq.zero (lt : α → α → Bool) (bs : Nat) (d : Nat → α) : Bq lt bs 0 d := fun p hp => absurd hp (Nat.not_lt_zero _)
theorem Bq.succ {n bs q b : Nat} {d d' : Nat → α} (h : Bq lt bs q d) (m : Mv n (q * bs) b d d') (s : So lt (q * bs) ((q + 1) * bs) d') : Bq lt bs (q + 1) d' := fun p hp => by
  by_cases e : p = q
  · rw [e]; exact s
  · have h1 : (p + 1) * bs ≤ q * bs := Nat.mul_le_mul_right _ (by omega)
    exact (h p (by omega)).same fun i _ hi => m.1 i (.inl (by omega))
theorem Bq.last {n bs q : Nat} {d d' : Nat → α} (h : Bq lt bs q d) (m : Mv n (q * bs) n d d') (s : So lt (q * bs) n d') (hq : n ≤ (q + 1) * bs) : Bs lt bs n d' := fun p => by
  rcases Nat.lt_trichotomy p q with e | e | e
  · have h1 : (p + 1) * bs ≤ q * bs := Nat.mul_le_mul_right _ (by omega)
    exact ((h p e).same fun i _ hi => m.1 i (.inl (by omega))).mono (Nat.le_refl _) (Nat.min_le_left _ _)
  · rw [e]; exact s.mono (Nat.le_refl _) (Nat.min_le_right _ _)
  · have h1 : (q + 1) * bs ≤ p * bs := Nat.mul_le_mul_right _ (by omega)
    exact So.one (by have := Nat.min_le_right ((p + 1) * bs) n; omega)
end
end Go.Proofs.YtapcgokcfmklbaaDoor

namespace Go.Proofs.YtapcgokcfmklbaaDoor
open Go Go.RowKit

section
variable {P : Program} {W : World} {n : Nat} {ops : Array Oper} {Q : Env → HL → Prop} {rest : List Oper} {e : Env} {H : HL}
variable {ty t : TypeId} {pos : String} {af : Array Edge} {x y : Operand} {v : Value} {z : List Value} {ag : Bool} {by_ : Nat}
theorem RS.storeE {g o : Nat} {tb : TypeId} {cs cs' vs : List Value} {H' : HL} (ht : tyChk P t = some (z, ag, by_)) (hx : ev e x = .pointer (some ⟨g, o, none⟩)) (hy : ev e y = v) (hc : v.cells = vs.toArray) (hl : vs.length = z.length)
    (h1 : vs.all (·.oneCell') = true) (hcs : cs.take o ++ vs ++ cs.drop (o + vs.length) = cs') (hu : Upd g tb cs cs' H H') (ho : o + vs.length ≤ cs.length)
    (k : RS P W n ops Q rest e H') : RS P W n ops Q (⟨none, .store t x y, ty, pos, af, none⟩ :: rest) e H := RS.store ht hx hy hc hl h1 hu ho hcs k
end
def plc (p : Pl) : List Value := [sv p.reel, iv p.i, iv p.o]
def pls (l : List Pl) : List Value := l.flatMap plc
theorem pls_cons (p : Pl) (l : List Pl) : pls (p :: l) = plc p ++ pls l := rfl
theorem pls_app (l m : List Pl) : pls (l ++ m) = pls l ++ pls m := by simp [pls]
theorem pls_len : ∀ l : List Pl, (pls l).length = l.length * 3
  | [] => rfl
  | p :: l => by rw [pls_cons, List.length_append, pls_len l, List.length_cons]; simp [plc]; omega
theorem pls_take : ∀ (l : List Pl) (i : Nat), (pls l).take (i * 3) = pls (l.take i)
  | [], i => by simp [pls]
  | p :: l, 0 => by simp [pls]
  | p :: l, i + 1 => by
    have h : (i + 1) * 3 = i * 3 + 3 := by omega
    rw [pls_cons, h, List.take_append, List.take_of_length_le (by simp [plc])]
    have : (plc p).length = 3 := rfl
    rw [this, Nat.add_sub_cancel, pls_take l i]; rfl
theorem pls_drop : ∀ (l : List Pl) (i : Nat), (pls l).drop (i * 3) = pls (l.drop i)
  | [], i => by simp [pls]
  | p :: l, 0 => by simp [pls]
  | p :: l, i + 1 => by
    have h : (i + 1) * 3 = i * 3 + 3 := by omega
    rw [pls_cons, h, List.drop_append, List.drop_of_length_le (by simp [plc])]
    have : (plc p).length = 3 := rfl
    rw [this, Nat.add_sub_cancel, pls_drop l i]; rfl
theorem pls_get {l : List Pl} {i : Nat} {p : Pl} (h : l[i]? = some p) (junk : List Value) : ((pls l ++ junk).drop (i * 3)).take 3 = plc p := by
  have hi := (List.getElem?_eq_some_iff.1 h).1
  rw [List.drop_append_of_le_length (by rw [pls_len]; omega), pls_drop, List.drop_eq_getElem_cons hi, (List.getElem?_eq_some_iff.1 h).2, pls_cons, List.append_assoc]
  rw [List.take_append_of_le_length (by simp [plc]), List.take_of_length_le (by simp [plc])]
theorem pls_at {l : List Pl} {i j : Nat} {p : Pl} {v : Value} (h : l[i]? = some p) (hv : (plc p)[j]? = some v) (junk : List Value) : (pls l ++ junk)[i * 3 + j]? = some v := by
  have h1 := pls_get h junk
  have hj : j < 3 := by have := (List.getElem?_eq_some_iff.1 hv).1; simpa [plc] using this
  rw [← h1, List.getElem?_take, if_pos hj, List.getElem?_drop] at hv
  exact hv
theorem pls_set {l : List Pl} {i : Nat} (hi : i < l.length) (p : Pl) (junk : List Value) : (pls l ++ junk).take (i * 3) ++ plc p ++ (pls l ++ junk).drop (i * 3 + 3) = pls (l.set i p) ++ junk := by
  rw [List.take_append_of_le_length (by rw [pls_len]; omega), List.drop_append_of_le_length (by rw [pls_len]; omega), pls_take, show i * 3 + 3 = (i + 1) * 3 by omega, pls_drop, List.set_eq_take_append_cons_drop, if_pos hi, pls_app, pls_cons]
  simp
/-- sizes that are added -/
def PlP (p : Pl) : Prop := -1099511627776 ≤ p.i ∧ p.i ≤ 1099511627776 ∧ p.reel.length ≤ maxLen
/-- the row of a sort -/
def fl (d : Nat → Pl) (n : Nat) (junk : List Value) : List Value := pls (lst d n) ++ junk
theorem fl_at {d : Nat → Pl} {n i : Nat} {junk : List Value} (h : i < n) : ((fl d n junk).drop (0 + ((i : Nat) : Int).toNat * 3)).take 3 = plc (d i) := by
  rw [Nat.zero_add, Int.toNat_natCast]
  exact pls_get (lst_at d h) junk
theorem fl_set {d : Nat → Pl} {n i : Nat} {v : Pl} {junk : List Value} (h : i < n) : (fl d n junk).take (0 + ((i : Nat) : Int).toNat * 3) ++ plc v ++ (fl d n junk).drop (0 + ((i : Nat) : Int).toNat * 3 + (plc v).length) = fl (updD d i v) n junk := by
  rw [Nat.zero_add, Int.toNat_natCast]
  have := pls_set (l := lst d n) (i := i) (by rw [lst_len]; exact h) v junk
  rw [lst_set d v h] at this
  exact this
theorem fl_len (d : Nat → Pl) (n : Nat) (junk : List Value) : (fl d n junk).length = n * 3 + junk.length := by
  unfold fl; rw [List.length_append, pls_len, lst_len]
theorem fl_fit {d : Nat → Pl} {n i : Nat} {v : Pl} {junk : List Value} (h : i < n) : 0 + ((i : Nat) : Int).toNat * 3 + (plc v).length ≤ (fl d n junk).length := by
  have : (plc v).length = 3 := rfl
  rw [fl_len, Int.toNat_natCast, this]; omega
theorem Mv.lt32 {n a b : Nat} {d d' : Nat → Pl} (h : Mv n a b d d') (hp : ∀ i, PlP (d i)) : ∀ i, PlP (d' i) := fun i => by
  by_cases hi : a ≤ i ∧ i < b
  · exact h.all (P := PlP) (fun j _ _ => hp j) i hi.1 hi.2
  · rw [h.1 i (by omega)]; exact hp i
end Go.Proofs.YtapcgokcfmklbaaDoor
