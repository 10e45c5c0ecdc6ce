/-
  Part 7 of what the proof leans on (U1, U2, Srt, Mrk, Mrk2, Mrk3, Shr3). Conditions: as each theorem says.
-/
import Derived.Test.YtapcgokcfmklbaaDoorY6
import Derived.Test.YtapcgokcfmklbaaDoorShelf
import Derived.Sort.OwnSortedInts
import Derived.Lib.RowBridge
namespace Go.Proofs.YtapcgokcfmklbaaDoor
open Go Go.Proofs Go.RowKit

theorem ty52 : tyChk Tryd.prog 52 = some ([.string ByteArray.empty, .int .i64 0, .slice none 0 0], true, 48) := by kernel_rfl
theorem fo91_2 : fldOff Tryd.prog 91 2 = some (2, 3) := by kernel_rfl
theorem pl91 : places Tryd.prog 91 = some #[(0, 1), (1, 1), (2, 1)] := by kernel_rfl
theorem ok47 : callOK Tryd.prog 47 = true := by kernel_rfl
theorem ok106 : callOK Tryd.prog 106 = true := by kernel_rfl
theorem ok107 : callOK Tryd.prog 107 = true := by kernel_rfl
theorem ok108 : callOK Tryd.prog 108 = true := by kernel_rfl

set_option maxHeartbeats 16000000 in
set_option maxRecDepth 100000 in
theorem sources_ (t : List UInt8) (rate : Int) (A : Option Addr) (c : Nat) (l : List Ev) (hd : Int) (W : World) (ht : t.length ≤ maxLen) (hA : ES W A l) (hr : ∀ e ∈ l, e.reel.length ≤ maxLen) (hm : l.length ≤ maxLen) : Fn_ Tryd.prog 46 #[.agg #[sv t, iv rate, .slice A l.length c], iv hd] W (fun v H => SrcR t rate l hd v H) := by
  refine Fn_.intro Tryd.func46 rfl rfl (by rfl) ?_
  refine CS.seq ?_
  refine CS.region ?_
  refine RS.box rfl (by rfl) (by rfl) ?_
  intro g2
  refine RS.q rfl (QO.assign) ?_
  refine RS.q rfl (QO.assign) ?_
  refine RS.nil ?_
  refine thenC_n ?_
  refine CS.seq ?_
  refine CS.seq ?_
  refine CS.region ?_
  first | (refine RS.q rfl (QO.loadB ty52 (by rfl) (by repeat (first | exact List.Mem.head _ | refine List.Mem.tail _ ?_)) (by rfl)) ?_) | (refine RS.q rfl (QO.loadA ty52 (by rfl) (by repeat (first | exact List.Mem.head _ | refine List.Mem.tail _ ?_)) (by rfl) (by rfl)) ?_) | (refine RS.q rfl (QO.loadOA ty52 (by rfl) (by assumption) (by rfl)) ?_)
  refine RS.call rfl (by rfl) ok47 (by rfl) (fun w ho => checkList t rate A l.length c l _ ht rfl (hA.own ho) hr hm) ?_
  rintro _ _ ⟨rfl, rfl⟩
  refine RS.q rfl (QO.assign) ?_
  refine RS.nil ?_
  refine thenC_n ?_
  refine CS.seq ?_
  refine CS.region ?_
  refine RS.q rfl (QO.move) ?_
  refine RS.q rfl (QO.neq (by rfl) (by rfl)) ?_
  refine RS.nil ?_
  refine thenC_n ?_
  refine CS.cond (by rfl) (fun hb0 => ?_) (fun hb0 => ?_)
  · have hb0p := bne_iff_ne.1 hb0
    refine CS.seq ?_
    refine CS.region ?_
    refine RS.q rfl (QO.move) ?_
    refine RS.q rfl (QO.assign) ?_
    refine RS.q rfl (QO.assign) ?_
    refine RS.nil ?_
    refine thenC_n ?_
    refine CS.ret ?_
    refine thenC_r ?_
    refine retQ.mk (H' := []) (.inr rfl) (RVs.tmp (by rfl) (RVs.tmp (by rfl) RVs.nil)) (List.nil_sublist _) ?_
    exact SrcR.bad (srcE_bad hb0p) hb0p
  · have hb0p := of_bne_false hb0
    refine CS.skip ?_
    refine thenC_n ?_
    refine CS.seq ?_
    refine CS.seq ?_
    refine CS.region ?_
    refine RS.q rfl (QO.move) ?_
    refine RS.q rfl (QO.lss (by rfl) (by rfl)) ?_
    refine RS.q rfl (QO.move) ?_
    refine RS.split (dj := 26) (by rfl) (fun hb1 => ?_) (fun hb1 => ?_)
    · have hb1p := of_decide_eq_true hb1
      refine RS.off (dj := 26) rfl (.inl (congrArg Value.bool hb1)) (fun _ => rfl) rfl ?_
      refine RS.off (dj := 26) rfl (.inl (congrArg Value.bool hb1)) (fun _ => rfl) rfl ?_
      refine RS.q rfl (QO.pickT (by rfl) hb1 (by rfl)) ?_
      refine RS.nil ?_
      refine thenC_n ?_
      refine CS.condT (by rfl) rfl ?_
      refine CS.seq ?_
      refine CS.region ?_
      refine RS.q rfl (QO.assign) ?_
      refine RS.q rfl (QO.assign) ?_
      refine RS.nil ?_
      refine thenC_n ?_
      refine CS.ret ?_
      refine thenC_r ?_
      refine retQ.mk (H' := []) (.inr rfl) (RVs.tmp (by rfl) (RVs.tmp (by rfl) RVs.nil)) (List.nil_sublist _) ?_
      exact SrcR.bad (srcE_rng (of_bne_false hb0) (by omega)) (by decide)
    · have hb1p := of_decide_eq_false hb1
      refine RS.on (dj := 26) rfl (congrArg Value.bool hb1) ?_
      refine RS.q rfl (QO.move) ?_
      refine RS.on (dj := 26) rfl (congrArg Value.bool hb1) ?_
      refine RS.q rfl (QO.gtr (by rfl) (by rfl)) ?_
      refine RS.q rfl (QO.pickF (by rfl) hb1 (by rfl)) ?_
      refine RS.nil ?_
      refine thenC_n ?_
      refine CS.cond (by rfl) (fun hb2 => ?_) (fun hb2 => ?_)
      · have hb2p := of_decide_eq_true hb2
        refine CS.seq ?_
        refine CS.region ?_
        refine RS.q rfl (QO.assign) ?_
        refine RS.q rfl (QO.assign) ?_
        refine RS.nil ?_
        refine thenC_n ?_
        refine CS.ret ?_
        refine thenC_r ?_
        refine retQ.mk (H' := []) (.inr rfl) (RVs.tmp (by rfl) (RVs.tmp (by rfl) RVs.nil)) (List.nil_sublist _) ?_
        exact SrcR.bad (srcE_rng (of_bne_false hb0) (by omega)) (by decide)
      · have hb2p := of_decide_eq_false hb2
        refine CS.skip ?_
        refine thenC_n ?_
        refine CS.seq ?_
        refine CS.region ?_
        refine RS.makeMap rfl (.inl rfl) ?_
        intro gm
        refine RS.q rfl (QO.assign) ?_
        refine RS.nil ?_
        refine thenC_n ?_
        refine CS.seq ?_
        refine CS.region ?_
        refine RS.q rfl (QO.assign) ?_
        refine RS.nil ?_
        refine thenC_n ?_
        refine CS.seq ?_
        refine CS.seq ?_
        refine CS.region ?_
        refine RS.q rfl (QO.fieldAddr fo52_2 (by rfl)) ?_
        first | (refine RS.q rfl (QO.load ty50 (by rfl) (by repeat (first | exact List.Mem.head _ | refine List.Mem.tail _ ?_)) (by rfl)) ?_) | (refine RS.q rfl (QO.loadO ty50 (by rfl) (by assumption)) ?_) | (refine RS.q rfl (QO.load ty50 (by rfl) (by repeat (first | exact List.Mem.head _ | refine List.Mem.tail _ ?_)) (by assumption)) ?_)
        refine RS.q rfl (QO.lenS Tryd.underlying50 (by rfl)) ?_
        have hE : edE t rate l = 0 := of_bne_false hb0
        have hl5 := (edE_ok hE).2.2.1
        refine RS.q rfl (QO.move) ?_
        refine RS.nil ?_
        refine thenC_n ?_
        refine CS.block ?_
        refine CS.loop (X := Nat × Array MapEntry × Nat × List RE × Value × HL) (8 :: 9 :: 10 :: 11 :: 34 :: 35 :: 36 :: 37 :: 38 :: 39 :: 40 :: 41 :: 42 :: 43 :: 44 :: 45 :: 46 :: 47 :: 48 :: 49 :: 50 :: 51 :: 52 :: 53 :: 54 :: 55 :: 56 :: 57 :: 58 :: 59 :: 60 :: 61 :: 62 :: 63 :: 64 :: 65 :: 66 :: 67 :: 68 :: 69 :: 70 :: 71 :: 72 :: 73 :: 74 :: 75 :: 76 :: 77 :: 78 :: 79 :: 80 :: 81 :: 82 :: 83 :: 84 :: 85 :: 86 :: 87 :: 88 :: 89 :: 90 :: 91 :: 92 :: 93 :: 94 :: 95 :: 96 :: 97 :: 98 :: 99 :: []) (fun z => [(34, iv (z.1 : Int)), (8, z.2.2.2.2.1)]) (fun z => ⟨g2, 52, [sv t, iv rate, .slice A l.length c]⟩ :: ⟨gm, .obj (.map z.2.1 z.2.2.1), []⟩ :: (fam z.2.2.2.1 ++ z.2.2.2.2.2)) (fun z => z.1 ≤ l.length ∧ FamOK Tryd.prog 91 z.2.1 z.2.2.1 z.2.2.2.1 ∧ rgs1 z.2.2.2.1 = grp (pullsL l hd z.1) ∧ Row 9 1 z.2.2.2.2.1 (z.2.2.2.1).length (((z.2.2.2.1).map (·.r)).map sv) z.2.2.2.2.2) (fun z => l.length - z.1) (0, #[], 0, [], .slice none 0 0, []) ⟨Nat.zero_le _, FamOK.nil _ _ _, rfl, .nil⟩ ?_ ?_ ?_
        · exact kn_cons (by rfl) (kn_cons (by rfl) kn_nil)
        · exact (show Sbp [⟨g2, 52, [sv t, iv rate, .slice A l.length c]⟩, ⟨gm, .obj (.map #[] 0), []⟩] _ from (by repeat (first | exact List.Sublist.refl _ | exact List.nil_sublist _ | refine List.Sublist.cons_cons _ ?_ | refine List.Sublist.cons _ ?_ | exact Sbp.refl | exact Sbp.nil | refine Sbp.cons (by repeat (first | exact Rem.head | apply Rem.tail)) ?_ | exact Sbp.app | refine Sbp.skip ?_ | exact List.sublist_append_left _ _ | exact List.sublist_append_right _ _)))
        · intro z gj9 hz
          obtain ⟨k, es, clk, rs, vr, Hr⟩ := z
          obtain ⟨hk, hfam, hgrp, hrow⟩ := hz
          simp only at hk hfam hgrp hrow
          show CS _ _ _ _ _ (puts (mix _ _ _) [(34, iv (k : Int)), (8, vr)]) (⟨g2, 52, [sv t, iv rate, .slice A l.length c]⟩ :: ⟨gm, .obj (.map es clk), []⟩ :: (fam rs ++ Hr))
          refine CS.seq ?_
          refine CS.region ?_
          refine RS.q rfl (QO.lss (by rfl) (by rfl)) ?_
          refine RS.nil ?_
          refine thenC_n ?_
          refine CS.seq ?_
          refine CS.cond (by rfl) (fun hb3 => ?_) (fun hb3 => ?_)
          · have hb3p := of_decide_eq_true hb3
            refine CS.skip ?_
            refine thenC_n ?_
            refine CS.seq ?_
            refine CS.block ?_
            refine CS.seq ?_
            refine CS.region ?_
            have hx1 := hA.at_ (show k < l.length by omega)
            obtain ⟨bA, oA, hA0, hcell⟩ := hx1
            subst hA0
            have hx2 : ∃ e, l.getD k default = e := ⟨_, rfl⟩
            obtain ⟨e, he⟩ := hx2
            rw [he] at hcell
            have hoe := ev_ok hE (show k < l.length by omega)
            rw [he] at hoe
            have hre : e.reel.length ≤ maxLen := by rw [← he]; exact hr _ (ev_mem (by omega))
            have hrl := rs_len hgrp
            rw [pullsL_len] at hrl
            have hnx := nxD_bd hE k
            refine RS.q rfl (QO.move) ?_
            refine RS.q rfl (QO.idx Tryd.underlying50 ty134 (by rfl) (by rfl) (by omega) (by omega)) ?_
            refine RS.q rfl (QO.loadOA ty134 (vs := evc e) (by rfl) hcell (by rfl)) ?_
            refine RS.alloc rfl ty134 ?_
            intro g10
            refine RS.q rfl (QO.assign) ?_
            first | refine RS.storeB ty134 (by rfl) (by rfl) (by rfl) (by rfl) (by rfl) (by repeat (first | exact Upd.head | apply Upd.tail | exact Upd.app _ Upd.head)) (by rfl) ?_ | refine RS.storeP ty134 (by rfl) (by rfl) (by rfl) (by rfl) (by rfl) (by repeat (first | exact Upd.head | apply Upd.tail | exact Upd.app _ Upd.head)) (by rfl) ?_
            refine RS.nil ?_
            refine thenC_n ?_
            refine CS.seq ?_
            refine CS.region ?_
            refine RS.q rfl (QO.fieldAddr fo134_0 (by rfl)) ?_
            first | (refine RS.q rfl (QO.load ty9 (by rfl) (by repeat (first | exact List.Mem.head _ | refine List.Mem.tail _ ?_)) (by rfl)) ?_) | (refine RS.q rfl (QO.loadO ty9 (by rfl) (by assumption)) ?_) | (refine RS.q rfl (QO.load ty9 (by rfl) (by repeat (first | exact List.Mem.head _ | refine List.Mem.tail _ ?_)) (by assumption)) ?_)
            refine RS.q rfl (QO.fieldAddr fo134_3 (by rfl)) ?_
            first | (refine RS.q rfl (QO.load ty3 (by rfl) (by repeat (first | exact List.Mem.head _ | refine List.Mem.tail _ ?_)) (by rfl)) ?_) | (refine RS.q rfl (QO.loadO ty3 (by rfl) (by assumption)) ?_) | (refine RS.q rfl (QO.load ty3 (by rfl) (by repeat (first | exact List.Mem.head _ | refine List.Mem.tail _ ?_)) (by assumption)) ?_)
            refine RS.q rfl (QO.move) ?_
            first | (refine RS.q rfl (QO.sub (by rfl) (by rfl) (by omega) (by omega)) ?_) | (refine RS.q rfl (QO.ibin (by rfl) (by rfl) trivial) ?_)
            refine RS.q rfl (QO.max2 (by rfl) (by rfl)) ?_
            refine RS.q rfl (QO.fieldAddr fo134_4 (by rfl)) ?_
            first | (refine RS.q rfl (QO.load ty3 (by rfl) (by repeat (first | exact List.Mem.head _ | refine List.Mem.tail _ ?_)) (by rfl)) ?_) | (refine RS.q rfl (QO.loadO ty3 (by rfl) (by assumption)) ?_) | (refine RS.q rfl (QO.load ty3 (by rfl) (by repeat (first | exact List.Mem.head _ | refine List.Mem.tail _ ?_)) (by assumption)) ?_)
            refine RS.q rfl (QO.move) ?_
            first | (refine RS.q rfl (QO.add (by rfl) (by rfl) (by omega) (by omega)) ?_) | (refine RS.q rfl (QO.ibin (by rfl) (by rfl) trivial) ?_)
            refine RS.q rfl (QO.build ty91 pl91 (by rfl)) ?_
            refine RS.alloc rfl ty91 ?_
            intro g11
            first | refine RS.storeB ty91 (by rfl) (by rfl) (by rfl) (by rfl) (by rfl) (by repeat (first | exact Upd.head | apply Upd.tail | exact Upd.app _ Upd.head)) (by rfl) ?_ | refine RS.storeP ty91 (by rfl) (by rfl) (by rfl) (by rfl) (by rfl) (by repeat (first | exact Upd.head | apply Upd.tail | exact Upd.app _ Upd.head)) (by rfl) ?_
            refine RS.nil ?_
            refine thenC_n ?_
            refine CS.cut (X := Int) (51 :: 52 :: 53 :: 54 :: 55 :: 56 :: 57 :: 58 :: 59 :: 60 :: 61 :: 62 :: 63 :: 64 :: 65 :: 66 :: 67 :: 68 :: 69 :: 70 :: 71 :: 72 :: 73 :: 74 :: 75 :: 76 :: 77 :: []) (fun o9 => []) (fun o9 => ⟨g11, 91, [sv e.reel, iv (max (e.inn - hd) 0), iv (o9)]⟩ :: ⟨g10, 134, [sv e.reel, iv e.kind, iv e.len, iv e.inn, iv e.out, iv e.at_]⟩ :: ⟨g2, 52, [sv t, iv rate, .slice (some ⟨bA, oA, none⟩) l.length c]⟩ :: ⟨gm, .obj (.map es clk), []⟩ :: (fam rs ++ Hr)) (fun o9 => o9 = e.out + hd + nxD l k) ?_ ?_
            · refine CS.seq ?_
              refine CS.region ?_
              refine RS.q rfl (QO.move) ?_
              first | (refine RS.q rfl (QO.add (by rfl) (by rfl) (by omega) (by omega)) ?_) | (refine RS.q rfl (QO.ibin (by rfl) (by rfl) trivial) ?_)
              refine RS.q rfl (QO.fieldAddr fo52_2 (by rfl)) ?_
              first | (refine RS.q rfl (QO.load ty50 (by rfl) (by repeat (first | exact List.Mem.head _ | refine List.Mem.tail _ ?_)) (by rfl)) ?_) | (refine RS.q rfl (QO.loadO ty50 (by rfl) (by assumption)) ?_) | (refine RS.q rfl (QO.load ty50 (by rfl) (by repeat (first | exact List.Mem.head _ | refine List.Mem.tail _ ?_)) (by assumption)) ?_)
              refine RS.q rfl (QO.lenS Tryd.underlying50 (by rfl)) ?_
              refine RS.q rfl (QO.lss (by rfl) (by rfl)) ?_
              refine RS.q rfl (QO.move) ?_
              refine RS.split (dj := 57) (by rfl) (fun hb4 => ?_) (fun hb4 => ?_)
              · have hb4p := of_decide_eq_true hb4
                refine RS.on (dj := 57) rfl (congrArg Value.bool hb4) ?_
                have hx3 := hA.at_ (show k + 1 < l.length by omega)
                obtain ⟨b3, o3, hA3, hcell3⟩ := hx3
                cases hA3
                have hx4 : ∃ e2, l.getD (k + 1) default = e2 := ⟨_, rfl⟩
                obtain ⟨e2, he2⟩ := hx4
                rw [he2] at hcell3
                have hc64 := hcell3 1 _ rfl
                rw [addr_add] at hc64
                have hc75 := hcell3 2 _ rfl
                rw [addr_add] at hc75
                have hoe2 := ev_ok hE (show k + 1 < l.length by omega)
                rw [he2] at hoe2
                refine RS.q rfl (QO.fieldAddr fo52_2 (by rfl)) ?_
                refine RS.on (dj := 57) rfl (congrArg Value.bool hb4) ?_
                first | (refine RS.q rfl (QO.load ty50 (by rfl) (by repeat (first | exact List.Mem.head _ | refine List.Mem.tail _ ?_)) (by rfl)) ?_) | (refine RS.q rfl (QO.loadO ty50 (by rfl) (by assumption)) ?_) | (refine RS.q rfl (QO.load ty50 (by rfl) (by repeat (first | exact List.Mem.head _ | refine List.Mem.tail _ ?_)) (by assumption)) ?_)
                refine RS.on (dj := 57) rfl (congrArg Value.bool hb4) ?_
                refine RS.q rfl (QO.move) ?_
                refine RS.on (dj := 57) rfl (congrArg Value.bool hb4) ?_
                first | (refine RS.qv rfl (QO.add (by rfl) (by rfl) (by omega) (by omega)) (congrArg iv (show (k : Int) + 1 = ((k + 1 : Nat) : Int) by omega)) ?_) | (refine RS.qv rfl (QO.ibin (by rfl) (by rfl) trivial) (congrArg iv (show (k : Int) + 1 = ((k + 1 : Nat) : Int) by omega)) ?_)
                refine RS.on (dj := 57) rfl (congrArg Value.bool hb4) ?_
                refine RS.q rfl (QO.idx Tryd.underlying50 ty134 (by rfl) (by rfl) (by omega) (by omega)) ?_
                refine RS.on (dj := 57) rfl (congrArg Value.bool hb4) ?_
                refine RS.q rfl (QO.fieldAddr fo134_1 (by rfl)) ?_
                refine RS.on (dj := 57) rfl (congrArg Value.bool hb4) ?_
                refine RS.q rfl (QO.loadO ty3 (by rfl) hc64) ?_
                refine RS.on (dj := 57) rfl (congrArg Value.bool hb4) ?_
                refine RS.q rfl (QO.eql (by rfl) (by rfl)) ?_
                refine RS.q rfl (QO.pickT (by rfl) hb4 (by rfl)) ?_
                refine RS.nil ?_
                refine thenC_n ?_
                refine CS.cond (by rfl) (fun hb5 => ?_) (fun hb5 => ?_)
                · have hb5p := eq_of_beq hb5
                  refine CS.draw 11 rfl (by kernel_rfl) (by kernel_rfl) ?_
                  refine RT.take (i := 0) rfl (by kernel_rfl) rfl (QO.fieldAddr fo91_2 (by rfl)) ?_
                  first | (refine RT.take (i := 1) rfl (by kernel_rfl) rfl (QO.load ty3 (by rfl) (by repeat (first | exact List.Mem.head _ | refine List.Mem.tail _ ?_)) (by rfl)) ?_) | (refine RT.take (i := 1) rfl (by kernel_rfl) rfl (QO.loadO ty3 (by rfl) (by assumption)) ?_) | (refine RT.take (i := 1) rfl (by kernel_rfl) rfl (QO.load ty3 (by rfl) (by repeat (first | exact List.Mem.head _ | refine List.Mem.tail _ ?_)) (by assumption)) ?_)
                  refine RT.take (i := 2) rfl (by kernel_rfl) rfl (QO.fieldAddr fo52_2 (by rfl)) ?_
                  first | (refine RT.take (i := 3) rfl (by kernel_rfl) rfl (QO.load ty50 (by rfl) (by repeat (first | exact List.Mem.head _ | refine List.Mem.tail _ ?_)) (by rfl)) ?_) | (refine RT.take (i := 3) rfl (by kernel_rfl) rfl (QO.loadO ty50 (by rfl) (by assumption)) ?_) | (refine RT.take (i := 3) rfl (by kernel_rfl) rfl (QO.load ty50 (by rfl) (by repeat (first | exact List.Mem.head _ | refine List.Mem.tail _ ?_)) (by assumption)) ?_)
                  refine RT.take (i := 4) rfl (by kernel_rfl) rfl (QO.move) ?_
                  first | (refine RT.takev (i := 5) rfl (by kernel_rfl) rfl (QO.add (by rfl) (by rfl) (by omega) (by omega)) (congrArg iv (show (k : Int) + 1 = ((k + 1 : Nat) : Int) by omega)) ?_) | (refine RT.takev (i := 5) rfl (by kernel_rfl) rfl (QO.ibin (by rfl) (by rfl) trivial) (congrArg iv (show (k : Int) + 1 = ((k + 1 : Nat) : Int) by omega)) ?_)
                  refine RT.take (i := 6) rfl (by kernel_rfl) rfl (QO.idx Tryd.underlying50 ty134 (by rfl) (by rfl) (by omega) (by omega)) ?_
                  refine RT.take (i := 7) rfl (by kernel_rfl) rfl (QO.fieldAddr fo134_2 (by rfl)) ?_
                  refine RT.take (i := 8) rfl (by kernel_rfl) rfl (QO.loadO ty3 (by rfl) hc75) ?_
                  first | (refine RT.take (i := 9) rfl (by kernel_rfl) rfl (QO.add (by rfl) (by rfl) (by omega) (by omega)) ?_) | (refine RT.take (i := 9) rfl (by kernel_rfl) rfl (QO.ibin (by rfl) (by rfl) trivial) ?_)
                  refine RT.take (i := 10) rfl (by kernel_rfl) rfl (QO.fieldAddr fo91_2 (by rfl)) ?_
                  refine RT.tail (i := 11) (by kernel_rfl) rfl rfl ?_
                  refine RS.store1 ty3 rfl (by rfl) (by rfl) (by rfl) (by repeat (first | exact Upd.head | apply Upd.tail | exact Upd.app _ Upd.head)) (by first | (simp; done) | (simp; omega) | omega) ?_
                  refine RS.nil ?_
                  refine RT.done (by kernel_rfl) ?_
                  refine cutQ_n (by intro t ht; repeat (first | with_reducible exact rfl | exact frame_puts ht (frame_mix ht) _ rfl | (refine frame_put rfl ht ?_) | (refine frame_puts ht ?_ _ rfl) | exact frame_mix ht | (refine frame_mix2 rfl ht ?_) | exact rfl)) ?_
                  have hnq : e.out + hd + e2.len = e.out + hd + nxD l k := by rw [nxD_T (by omega) (by rw [he2]; omega), he2]
                  exact ⟨_, hnq, (by repeat (first | exact kn_nil | refine kn_cons (by rfl) ?_)), (by repeat (first | exact List.Sublist.refl _ | exact List.nil_sublist _ | refine List.Sublist.cons_cons _ ?_ | refine List.Sublist.cons _ ?_ | exact Sbp.refl | exact Sbp.nil | refine Sbp.cons (by repeat (first | exact Rem.head | apply Rem.tail)) ?_ | exact Sbp.app | refine Sbp.skip ?_ | exact List.sublist_append_left _ _ | exact List.sublist_append_right _ _))⟩
                · have hb5p := ne_of_beq_false hb5
                  refine CS.skip ?_
                  refine cutQ_n (by intro t ht; repeat (first | with_reducible exact rfl | exact frame_puts ht (frame_mix ht) _ rfl | (refine frame_put rfl ht ?_) | (refine frame_puts ht ?_ _ rfl) | exact frame_mix ht | (refine frame_mix2 rfl ht ?_) | exact rfl)) ?_
                  have hnq : e.out + hd = e.out + hd + nxD l k := by rw [nxD_F (by omega) (by rw [he2]; omega), Int.add_zero]
                  exact ⟨_, hnq, (by repeat (first | exact kn_nil | refine kn_cons (by rfl) ?_)), (by repeat (first | exact List.Sublist.refl _ | exact List.nil_sublist _ | refine List.Sublist.cons_cons _ ?_ | refine List.Sublist.cons _ ?_ | exact Sbp.refl | exact Sbp.nil | refine Sbp.cons (by repeat (first | exact Rem.head | apply Rem.tail)) ?_ | exact Sbp.app | refine Sbp.skip ?_ | exact List.sublist_append_left _ _ | exact List.sublist_append_right _ _))⟩
              · have hb4p := of_decide_eq_false hb4
                refine RS.off (dj := 57) rfl (.inl (congrArg Value.bool hb4)) (fun _ => rfl) rfl ?_
                refine RS.off (dj := 57) rfl (.inl (congrArg Value.bool hb4)) (fun _ => rfl) rfl ?_
                refine RS.off (dj := 57) rfl (.inl (congrArg Value.bool hb4)) (fun _ => rfl) rfl ?_
                refine RS.off (dj := 57) rfl (.inl (congrArg Value.bool hb4)) (fun _ => rfl) rfl ?_
                refine RS.off (dj := 57) rfl (.inl (congrArg Value.bool hb4)) (fun _ => rfl) rfl ?_
                refine RS.off (dj := 57) rfl (.inl (congrArg Value.bool hb4)) (fun _ => rfl) rfl ?_
                refine RS.off (dj := 57) rfl (.inl (congrArg Value.bool hb4)) (fun _ => rfl) rfl ?_
                refine RS.off (dj := 57) rfl (.inl (congrArg Value.bool hb4)) (fun _ => rfl) rfl ?_
                refine RS.q rfl (QO.pickF (by rfl) hb4 (by rfl)) ?_
                refine RS.nil ?_
                refine thenC_n ?_
                refine CS.condF (by rfl) rfl ?_
                refine CS.skip ?_
                refine cutQ_n (by intro t ht; repeat (first | with_reducible exact rfl | exact frame_puts ht (frame_mix ht) _ rfl | (refine frame_put rfl ht ?_) | (refine frame_puts ht ?_ _ rfl) | exact frame_mix ht | (refine frame_mix2 rfl ht ?_) | exact rfl)) ?_
                have hnq : e.out + hd = e.out + hd + nxD l k := by rw [nxD_N (by omega), Int.add_zero]
                exact ⟨_, hnq, (by repeat (first | exact kn_nil | refine kn_cons (by rfl) ?_)), (by repeat (first | exact List.Sublist.refl _ | exact List.nil_sublist _ | refine List.Sublist.cons_cons _ ?_ | refine List.Sublist.cons _ ?_ | exact Sbp.refl | exact Sbp.nil | refine Sbp.cons (by repeat (first | exact Rem.head | apply Rem.tail)) ?_ | exact Sbp.app | refine Sbp.skip ?_ | exact List.sublist_append_left _ _ | exact List.sublist_append_right _ _))⟩
            · intro o9 gj hz
              refine CS.seq ?_
              refine CS.seq ?_
              by_cases hsp14 : ∀ x ∈ rs, x.r ≠ e.reel
              · refine CS.region ?_
                refine RS.q rfl (QO.move) ?_
                refine RS.q rfl (QO.fieldAddr fo134_0 (by rfl)) ?_
                first | (refine RS.q rfl (QO.load ty9 (by rfl) (by repeat (first | exact List.Mem.head _ | refine List.Mem.tail _ ?_)) (by rfl)) ?_) | (refine RS.q rfl (QO.loadO ty9 (by rfl) (by assumption)) ?_) | (refine RS.q rfl (QO.load ty9 (by rfl) (by repeat (first | exact List.Mem.head _ | refine List.Mem.tail _ ?_)) (by assumption)) ?_)
                refine RS.qv rfl (QO.look strK Tryd.underlying151 z86 (.inr ⟨_, (by repeat (first | exact List.Mem.head _ | refine List.Mem.tail _ ?_))⟩) hfam.ok (by rfl) (by rfl) (hkey9 hre)) (show lookV false (.slice none 0 0) (mg es (sv e.reel)) = .slice none 0 0 from by rw [hfam.get, rowOf_none hsp14]; rfl) ?_
                refine RS.q rfl (QO.lenS Tryd.underlying86 (by rfl)) ?_
                refine RS.q rfl (QO.eql (by rfl) (by rfl)) ?_
                refine RS.nil ?_
                refine thenC_n ?_
                refine CS.condT (by rfl) rfl ?_
                refine CS.region ?_
                refine RS.q rfl (QO.move) ?_
                refine RS.q rfl (QO.fieldAddr fo134_0 (by rfl)) ?_
                first | (refine RS.q rfl (QO.load ty9 (by rfl) (by repeat (first | exact List.Mem.head _ | refine List.Mem.tail _ ?_)) (by rfl)) ?_) | (refine RS.q rfl (QO.loadO ty9 (by rfl) (by assumption)) ?_) | (refine RS.q rfl (QO.load ty9 (by rfl) (by repeat (first | exact List.Mem.head _ | refine List.Mem.tail _ ?_)) (by assumption)) ?_)
                refine RS.buildSlice rfl Tryd.underlying152 ty9 (by decide) (by decide) (by rfl) (by rfl) ?_
                intro g87
                refine RS.appendRow rfl Tryd.underlying152 ty9 (by rfl) hrow (by repeat (first | exact Suf.base | exact Suf.any _ _ | apply Suf.cons)) (by rfl) (Src.blk (by repeat (first | exact List.Mem.head _ | refine List.Mem.tail _ ?_))) (by rfl) (by rfl) (by decide) (by decide) (by unfold maxLen; omega) (by omega) ?_
                intro v88 H88 hrow88
                refine RS.q rfl (QO.assign) ?_
                refine RS.nil ?_
                refine thenC_n ?_
                refine CS.drawS (HS := ⟨g11, 91, [sv e.reel, iv (max (e.inn - hd) 0), iv (o9)]⟩ :: ⟨g10, 134, [sv e.reel, iv e.kind, iv e.len, iv e.inn, iv e.out, iv e.at_]⟩ :: ⟨g2, 52, [sv t, iv rate, .slice (some ⟨bA, oA, none⟩) l.length c]⟩ :: ⟨gm, .obj (.map es clk), []⟩ :: []) 10 (by repeat (first | exact List.Sublist.refl _ | exact List.nil_sublist _ | refine List.Sublist.cons_cons _ ?_ | refine List.Sublist.cons _ ?_ | exact Sbp.refl | exact Sbp.nil | refine Sbp.cons (by repeat (first | exact Rem.head | apply Rem.tail)) ?_ | exact Sbp.app | refine Sbp.skip ?_ | exact List.sublist_append_left _ _ | exact List.sublist_append_right _ _)) rfl (by kernel_rfl) (by kernel_rfl) ?_
                refine RT.take (i := 0) rfl (by kernel_rfl) rfl (QO.move) ?_
                refine RT.take (i := 1) rfl (by kernel_rfl) rfl (QO.fieldAddr fo134_0 (by rfl)) ?_
                first | (refine RT.take (i := 2) rfl (by kernel_rfl) rfl (QO.load ty9 (by rfl) (by repeat (first | exact List.Mem.head _ | refine List.Mem.tail _ ?_)) (by rfl)) ?_) | (refine RT.take (i := 2) rfl (by kernel_rfl) rfl (QO.loadO ty9 (by rfl) (by assumption)) ?_) | (refine RT.take (i := 2) rfl (by kernel_rfl) rfl (QO.load ty9 (by rfl) (by repeat (first | exact List.Mem.head _ | refine List.Mem.tail _ ?_)) (by assumption)) ?_)
                refine RT.take (i := 3) rfl (by kernel_rfl) rfl (QO.move) ?_
                refine RT.take (i := 4) rfl (by kernel_rfl) rfl (QO.fieldAddr fo134_0 (by rfl)) ?_
                first | (refine RT.take (i := 5) rfl (by kernel_rfl) rfl (QO.load ty9 (by rfl) (by repeat (first | exact List.Mem.head _ | refine List.Mem.tail _ ?_)) (by rfl)) ?_) | (refine RT.take (i := 5) rfl (by kernel_rfl) rfl (QO.loadO ty9 (by rfl) (by assumption)) ?_) | (refine RT.take (i := 5) rfl (by kernel_rfl) rfl (QO.load ty9 (by rfl) (by repeat (first | exact List.Mem.head _ | refine List.Mem.tail _ ?_)) (by assumption)) ?_)
                refine RT.takev (i := 6) rfl (by kernel_rfl) rfl (QO.look strK Tryd.underlying151 z86 (.inr ⟨_, (by repeat (first | exact List.Mem.head _ | refine List.Mem.tail _ ?_))⟩) hfam.ok (by rfl) (by rfl) (hkey9 hre)) (show lookV false (.slice none 0 0) (mg es (sv e.reel)) = .slice none 0 0 from by rw [hfam.get, rowOf_none hsp14]; rfl) ?_
                first | (refine RT.take (i := 7) rfl (by kernel_rfl) rfl (QO.loadB ty91 (by rfl) (by repeat (first | exact List.Mem.head _ | refine List.Mem.tail _ ?_)) (by rfl)) ?_) | (refine RT.take (i := 7) rfl (by kernel_rfl) rfl (QO.loadA ty91 (by rfl) (by repeat (first | exact List.Mem.head _ | refine List.Mem.tail _ ?_)) (by rfl) (by rfl)) ?_) | (refine RT.take (i := 7) rfl (by kernel_rfl) rfl (QO.loadOA ty91 (by rfl) (by assumption) (by rfl)) ?_)
                refine RT.one (i := 8) (by kernel_rfl) rfl rfl ?_
                refine RS.buildSlice rfl Tryd.underlying86 ty91 (by decide) (by decide) (by rfl) (by rfl) ?_
                intro g97
                refine RS.nil ⟨(by repeat (first | exact List.Sublist.refl _ | exact List.nil_sublist _ | refine List.Sublist.cons_cons _ ?_ | refine List.Sublist.cons _ ?_ | exact Sbp.refl | exact Sbp.nil | refine Sbp.cons (by repeat (first | exact Rem.head | apply Rem.tail)) ?_ | exact Sbp.app | refine Sbp.skip ?_ | exact List.sublist_append_left _ _ | exact List.sublist_append_right _ _)), ?_⟩
                refine RT.one (i := 9) (by kernel_rfl) rfl rfl ?_
                refine RS.appendRow rfl Tryd.underlying86 ty91 (by rfl) (Row.nil (el := 91) (s := 3)) (by repeat (first | exact Suf.nil0 _ | apply Suf.cons)) (by rfl) (Src.blk (by repeat (first | exact List.Mem.head _ | refine List.Mem.tail _ ?_))) (by rfl) (by rfl) (by decide) (by decide) (by unfold maxLen; omega) (by omega) ?_
                intro v98 H98 hrow98
                refine RS.nil ⟨(by repeat (first | exact List.Sublist.refl _ | exact List.nil_sublist _ | refine List.Sublist.cons_cons _ ?_ | refine List.Sublist.cons _ ?_ | exact Sbp.refl | exact Sbp.nil | refine Sbp.cons (by repeat (first | exact Rem.head | apply Rem.tail)) ?_ | exact Sbp.app | refine Sbp.skip ?_ | exact List.sublist_append_left _ _ | exact List.sublist_append_right _ _)), ?_⟩
                refine RT.tail (i := 10) (by kernel_rfl) rfl rfl ?_
                refine RS.mapPut strK rfl Tryd.underlying151 (by repeat (first | exact Rem.head | apply Rem.tail)) hfam.ok (by rfl) (by rfl) (hkey9 hre) (by rfl) ?_
                intro es2 clk2 hok2 ho2 hs2 hsz2
                refine RS.nil ?_
                refine RT.done (by kernel_rfl) ?_
                refine blockC_n ?_
                refine thenC_n ?_
                refine CS.region ?_
                first | (refine RS.q rfl (QO.add (by rfl) (by rfl) (by omega) (by omega)) ?_) | (refine RS.q rfl (QO.ibin (by rfl) (by rfl) trivial) ?_)
                have hE : edE t rate l = 0 := of_bne_false hb0
                have hl5 := (edE_ok hE).2.2.1
                refine RS.q rfl (QO.move) ?_
                refine RS.nil ?_
                refine loopQ_n (by intro t ht; repeat (first | with_reducible exact rfl | exact frame_puts ht (frame_mix ht) _ rfl | (refine frame_put rfl ht ?_) | (refine frame_puts ht ?_ _ rfl) | exact frame_mix ht | (refine frame_mix2 rfl ht ?_) | exact rfl)) ?_
                have hpk : (⟨e.reel, max (e.inn - hd) 0, o9⟩ : Pl) = pullP l hd k := by unfold pullP; rw [he, hz]
                have hps : Row 91 3 v98 [(⟨e.reel, max (e.inn - hd) 0, o9⟩ : Pl)].length (pls [(⟨e.reel, max (e.inn - hd) 0, o9⟩ : Pl)]) H98 := hrow98
                have hP := fam_new rs ⟨e.reel, [(⟨e.reel, max (e.inn - hd) 0, o9⟩ : Pl)], v98, H98⟩ H88
                refine ⟨(k + 1, es2, clk2, rs ++ [⟨e.reel, [⟨e.reel, max (e.inn - hd) 0, o9⟩], v98, H98⟩], v88, H88), ⟨by show k + 1 ≤ l.length; omega, hfam.new hok2 ho2 hs2 hsp14 hps, ?_, ?_⟩, by show l.length - (k + 1) < l.length - k; omega, kn_cons (by rfl) (kn_cons (by rfl) kn_nil), ?_⟩
                · show rgs1 _ = grp (pullsL l hd (k + 1))
                  rw [pullsL_succ, ← hpk]
                  exact rs_new (p := ⟨e.reel, max (e.inn - hd) 0, o9⟩) hgrp hsp14
                · show Row 9 1 v88 (rs ++ [_]).length (((rs ++ [_]).map (fun y : RE => y.r)).map sv) H88
                  rw [List.length_append, List.map_append, List.map_append]
                  exact hrow88
                · exact Sbp.cons (by repeat (first | exact Rem.head | apply Rem.tail)) (Sbp.cons (by repeat (first | exact Rem.head | apply Rem.tail)) (by repeat (first | exact Sbp.ofPerm0 hP | refine Sbp.skip ?_)))
              · refine CS.region ?_
                have hxs := (rs_split rs e.reel).resolve_left hsp14
                obtain ⟨Ax, x, Bx, hrs, hxr, hxA⟩ := hxs
                subst hrs
                have hxA' : ∀ y ∈ Ax, y.r ≠ x.r := fun y hy => by rw [hxr]; exact hxA y hy
                have hrx := hfam.row x (by simp)
                have hxo := hrx.slice
                obtain ⟨Ao, co, hxv, hco1, hco2⟩ := hxo
                have hxn := rs_ok hgrp (x := x) (by simp)
                have hxp : 0 < x.l.length := List.length_pos_iff.2 hxn.1
                have hxl := rs_lone hgrp (x := x) (by simp)
                rw [pullsL_len] at hxl
                rw [hxv] at hrx
                have hq := fam_out Ax Bx x Hr
                refine RS.q rfl (QO.move) ?_
                refine RS.q rfl (QO.fieldAddr fo134_0 (by rfl)) ?_
                first | (refine RS.q rfl (QO.load ty9 (by rfl) (by repeat (first | exact List.Mem.head _ | refine List.Mem.tail _ ?_)) (by rfl)) ?_) | (refine RS.q rfl (QO.loadO ty9 (by rfl) (by assumption)) ?_) | (refine RS.q rfl (QO.load ty9 (by rfl) (by repeat (first | exact List.Mem.head _ | refine List.Mem.tail _ ?_)) (by assumption)) ?_)
                refine RS.qv rfl (QO.look strK Tryd.underlying151 z86 (.inr ⟨_, (by repeat (first | exact List.Mem.head _ | refine List.Mem.tail _ ?_))⟩) hfam.ok (by rfl) (by rfl) (hkey9 hre)) (show lookV false (.slice none 0 0) (mg es (sv e.reel)) = .slice Ao x.l.length co from by rw [hfam.get, ← hxr, rowOf_some hxA', hxv]; rfl) ?_
                refine RS.q rfl (QO.lenS Tryd.underlying86 (by rfl)) ?_
                refine RS.q rfl (QO.eql (by rfl) (by rfl)) ?_
                refine RS.nil ?_
                refine thenC_n ?_
                refine CS.condF (by rfl) (beq_eq_false_iff_ne.2 (by omega)) ?_
                refine CS.skip ?_
                refine thenC_n ?_
                refine CS.drawS (HS := ⟨g11, 91, [sv e.reel, iv (max (e.inn - hd) 0), iv (o9)]⟩ :: ⟨g10, 134, [sv e.reel, iv e.kind, iv e.len, iv e.inn, iv e.out, iv e.at_]⟩ :: ⟨g2, 52, [sv t, iv rate, .slice (some ⟨bA, oA, none⟩) l.length c]⟩ :: ⟨gm, .obj (.map es clk), []⟩ :: []) 10 (by repeat (first | exact List.Sublist.refl _ | exact List.nil_sublist _ | refine List.Sublist.cons_cons _ ?_ | refine List.Sublist.cons _ ?_ | exact Sbp.refl | exact Sbp.nil | refine Sbp.cons (by repeat (first | exact Rem.head | apply Rem.tail)) ?_ | exact Sbp.app | refine Sbp.skip ?_ | exact List.sublist_append_left _ _ | exact List.sublist_append_right _ _)) rfl (by kernel_rfl) (by kernel_rfl) ?_
                refine RT.take (i := 0) rfl (by kernel_rfl) rfl (QO.move) ?_
                refine RT.take (i := 1) rfl (by kernel_rfl) rfl (QO.fieldAddr fo134_0 (by rfl)) ?_
                first | (refine RT.take (i := 2) rfl (by kernel_rfl) rfl (QO.load ty9 (by rfl) (by repeat (first | exact List.Mem.head _ | refine List.Mem.tail _ ?_)) (by rfl)) ?_) | (refine RT.take (i := 2) rfl (by kernel_rfl) rfl (QO.loadO ty9 (by rfl) (by assumption)) ?_) | (refine RT.take (i := 2) rfl (by kernel_rfl) rfl (QO.load ty9 (by rfl) (by repeat (first | exact List.Mem.head _ | refine List.Mem.tail _ ?_)) (by assumption)) ?_)
                refine RT.take (i := 3) rfl (by kernel_rfl) rfl (QO.move) ?_
                refine RT.take (i := 4) rfl (by kernel_rfl) rfl (QO.fieldAddr fo134_0 (by rfl)) ?_
                first | (refine RT.take (i := 5) rfl (by kernel_rfl) rfl (QO.load ty9 (by rfl) (by repeat (first | exact List.Mem.head _ | refine List.Mem.tail _ ?_)) (by rfl)) ?_) | (refine RT.take (i := 5) rfl (by kernel_rfl) rfl (QO.loadO ty9 (by rfl) (by assumption)) ?_) | (refine RT.take (i := 5) rfl (by kernel_rfl) rfl (QO.load ty9 (by rfl) (by repeat (first | exact List.Mem.head _ | refine List.Mem.tail _ ?_)) (by assumption)) ?_)
                refine RT.takev (i := 6) rfl (by kernel_rfl) rfl (QO.look strK Tryd.underlying151 z86 (.inr ⟨_, (by repeat (first | exact List.Mem.head _ | refine List.Mem.tail _ ?_))⟩) hfam.ok (by rfl) (by rfl) (hkey9 hre)) (show lookV false (.slice none 0 0) (mg es (sv e.reel)) = .slice Ao x.l.length co from by rw [hfam.get, ← hxr, rowOf_some hxA', hxv]; rfl) ?_
                first | (refine RT.take (i := 7) rfl (by kernel_rfl) rfl (QO.loadB ty91 (by rfl) (by repeat (first | exact List.Mem.head _ | refine List.Mem.tail _ ?_)) (by rfl)) ?_) | (refine RT.take (i := 7) rfl (by kernel_rfl) rfl (QO.loadA ty91 (by rfl) (by repeat (first | exact List.Mem.head _ | refine List.Mem.tail _ ?_)) (by rfl) (by rfl)) ?_) | (refine RT.take (i := 7) rfl (by kernel_rfl) rfl (QO.loadOA ty91 (by rfl) (by assumption) (by rfl)) ?_)
                refine RT.one (i := 8) (by kernel_rfl) rfl rfl ?_
                refine RS.buildSlice rfl Tryd.underlying86 ty91 (by decide) (by decide) (by rfl) (by rfl) ?_
                intro g97
                refine RS.nil ⟨(by repeat (first | exact List.Sublist.refl _ | exact List.nil_sublist _ | refine List.Sublist.cons_cons _ ?_ | refine List.Sublist.cons _ ?_ | exact Sbp.refl | exact Sbp.nil | refine Sbp.cons (by repeat (first | exact Rem.head | apply Rem.tail)) ?_ | exact Sbp.app | refine Sbp.skip ?_ | exact List.sublist_append_left _ _ | exact List.sublist_append_right _ _)), ?_⟩
                refine RT.one (i := 9) (by kernel_rfl) rfl rfl ?_
                refine RS.perm (((((hq.cons _).cons _).cons _).cons _).cons _) ?_
                refine RS.appendRow rfl Tryd.underlying86 ty91 (by rfl) hrx (by repeat (first | exact Suf.base | exact Suf.any _ _ | apply Suf.cons)) (by rfl) (Src.blk (by repeat (first | exact List.Mem.head _ | refine List.Mem.tail _ ?_))) (by rfl) (by rfl) (by decide) (by decide) (by unfold maxLen; omega) (by omega) ?_
                intro v98 H98 hrow98
                refine RS.nil ⟨(by repeat (first | exact List.Sublist.refl _ | exact List.nil_sublist _ | refine List.Sublist.cons_cons _ ?_ | refine List.Sublist.cons _ ?_ | exact Sbp.refl | exact Sbp.nil | refine Sbp.cons (by repeat (first | exact Rem.head | apply Rem.tail)) ?_ | exact Sbp.app | refine Sbp.skip ?_ | exact List.sublist_append_left _ _ | exact List.sublist_append_right _ _)), ?_⟩
                refine RT.tail (i := 10) (by kernel_rfl) rfl rfl ?_
                refine RS.mapPut strK rfl Tryd.underlying151 (by repeat (first | exact Rem.head | apply Rem.tail)) hfam.ok (by rfl) (by rfl) (hkey9 hre) (by rfl) ?_
                intro es2 clk2 hok2 ho2 hs2 hsz2
                refine RS.nil ?_
                refine RT.done (by kernel_rfl) ?_
                refine blockC_n ?_
                refine thenC_n ?_
                refine CS.region ?_
                first | (refine RS.q rfl (QO.add (by rfl) (by rfl) (by omega) (by omega)) ?_) | (refine RS.q rfl (QO.ibin (by rfl) (by rfl) trivial) ?_)
                have hE : edE t rate l = 0 := of_bne_false hb0
                have hl5 := (edE_ok hE).2.2.1
                refine RS.q rfl (QO.move) ?_
                refine RS.nil ?_
                refine loopQ_n (by intro t ht; repeat (first | with_reducible exact rfl | exact frame_puts ht (frame_mix ht) _ rfl | (refine frame_put rfl ht ?_) | (refine frame_puts ht ?_ _ rfl) | exact frame_mix ht | (refine frame_mix2 rfl ht ?_) | exact rfl)) ?_
                have hpk : (⟨e.reel, max (e.inn - hd) 0, o9⟩ : Pl) = pullP l hd k := by unfold pullP; rw [he, hz]
                have hps : Row 91 3 v98 (x.l ++ [(⟨e.reel, max (e.inn - hd) 0, o9⟩ : Pl)]).length (pls (x.l ++ [(⟨e.reel, max (e.inn - hd) 0, o9⟩ : Pl)])) H98 := by rw [pls_app, List.length_append]; exact hrow98
                rw [← hxr] at ho2 hs2
                have hP := fam_out Ax Bx ⟨x.r, x.l ++ [(⟨e.reel, max (e.inn - hd) 0, o9⟩ : Pl)], v98, H98⟩ Hr
                refine ⟨(k + 1, es2, clk2, Ax ++ ⟨x.r, x.l ++ [⟨e.reel, max (e.inn - hd) 0, o9⟩], v98, H98⟩ :: Bx, vr, Hr), ⟨by show k + 1 ≤ l.length; omega, hfam.old hok2 ho2 hs2 hxA' hps, ?_, ?_⟩, by show l.length - (k + 1) < l.length - k; omega, kn_cons (by rfl) (kn_cons (by rfl) kn_nil), ?_⟩
                · show rgs1 _ = grp (pullsL l hd (k + 1))
                  rw [pullsL_succ, ← hpk]
                  exact rs_old (p := ⟨e.reel, max (e.inn - hd) 0, o9⟩) hgrp hxr hxA'
                · show Row 9 1 vr (Ax ++ _ :: Bx).length (((Ax ++ _ :: Bx).map (fun y : RE => y.r)).map sv) Hr
                  simpa using hrow
                · exact Sbp.cons (by repeat (first | exact Rem.head | apply Rem.tail)) (Sbp.cons (by repeat (first | exact Rem.head | apply Rem.tail)) (by repeat (first | exact Sbp.ofPerm0 hP.symm | refine Sbp.skip ?_)))
          · have hb3p := of_decide_eq_false hb3
            refine CS.exit ?_
            refine thenC_x ?_
            refine loopQ_x ?_
            refine blockC_x ?_
            refine thenC_n ?_
            refine CS.seq ?_
            by_cases hsp18 : rs = []
            · refine CS.region ?_
              have hkl : k = l.length := by omega
              rw [hkl] at hgrp
              have hx5 := hrow.slice
              obtain ⟨Ar, cr, hvr, _, _⟩ := hx5
              rw [hsp18] at hvr
              subst hvr
              have hpe : pullsL l hd l.length = [] := by
                have h9 := rs_perm hgrp
                rw [hsp18] at h9
                exact List.Perm.nil_eq h9 |>.symm
              refine RS.q rfl (QO.move) ?_
              refine RS.call rfl (by rfl) ok106 (by rfl) (fun w ho => sortS0 Ar cr _) ?_
              rintro _ _ ⟨rfl, rfl⟩
              refine RS.nil ?_
              refine thenC_n ?_
              refine CS.seq ?_
              refine CS.region ?_
              refine RS.q rfl (QO.assign) ?_
              refine RS.nil ?_
              refine thenC_n ?_
              refine CS.seq ?_
              refine CS.seq ?_
              refine CS.region ?_
              refine RS.q rfl (QO.move) ?_
              refine RS.q rfl (QO.lenS Tryd.underlying152 (by rfl)) ?_
              refine RS.q rfl (QO.move) ?_
              refine RS.nil ?_
              refine thenC_n ?_
              refine CS.block ?_
              refine CS.loop (X := Unit) (12 :: 14 :: 15 :: 16 :: 17 :: 18 :: 104 :: 105 :: 106 :: 107 :: 108 :: 109 :: 110 :: 111 :: 112 :: 113 :: 114 :: 115 :: 116 :: 117 :: 118 :: 119 :: 120 :: 121 :: 122 :: 123 :: 124 :: 125 :: 126 :: 127 :: 128 :: 129 :: 130 :: 131 :: 132 :: 133 :: 134 :: 135 :: 136 :: 137 :: 138 :: 139 :: 140 :: 141 :: 142 :: 143 :: 144 :: 145 :: 146 :: 147 :: 148 :: 149 :: 150 :: 151 :: 152 :: []) (fun z => [(104, iv 0), (12, .slice none 0 0)]) (fun z => []) (fun z => True) (fun z => 0) () trivial ?_ ?_ ?_
              · exact (by repeat (first | exact kn_nil | refine kn_cons (by rfl) ?_))
              · exact (by repeat (first | exact List.Sublist.refl _ | exact List.nil_sublist _ | refine List.Sublist.cons_cons _ ?_ | refine List.Sublist.cons _ ?_ | exact Sbp.refl | exact Sbp.nil | refine Sbp.cons (by repeat (first | exact Rem.head | apply Rem.tail)) ?_ | exact Sbp.app | refine Sbp.skip ?_ | exact List.sublist_append_left _ _ | exact List.sublist_append_right _ _))
              · intro z gj21 hz
                refine CS.seq ?_
                refine CS.region ?_
                refine RS.q rfl (QO.lss (by rfl) (by rfl)) ?_
                refine RS.nil ?_
                refine thenC_n ?_
                refine CS.seq ?_
                refine CS.condF (by rfl) rfl ?_
                refine CS.exit ?_
                refine thenC_x ?_
                refine loopQ_x ?_
                refine blockC_x ?_
                refine thenC_n ?_
                refine CS.seq ?_
                refine CS.region ?_
                refine RS.q rfl (QO.move) ?_
                refine RS.q rfl (QO.assign) ?_
                refine RS.q rfl (QO.assign) ?_
                refine RS.nil ?_
                refine thenC_n ?_
                refine CS.ret ?_
                refine retQ.mk (H' := []) (.inr rfl) (RVs.tmp (by rfl) (RVs.tmp (by rfl) RVs.nil)) (List.nil_sublist _) ?_
                exact SrcR.good (m := []) (srcE_ok hE (by omega) (by omega)) .nil ⟨[], (by rw [hpe]), .nil, rfl⟩
            · refine CS.region ?_
              have hkl : k = l.length := by omega
              rw [hkl] at hgrp
              have hx5 := hrow.some (List.length_pos_iff.2 hsp18)
              obtain ⟨gr, cr, jr, hvr, hHr, hrc1, hrc2, hrc3⟩ := hx5
              subst hvr
              subst hHr
              have hrl5 := rs_len hgrp
              rw [pullsL_len] at hrl5
              have hleft0 := left_all hfam hgrp
              have hPall := pulls_P (hd := hd) hE (by omega) (by omega) hr (Nat.le_refl l.length)
              have hks := srtS_lt (rs_nd hgrp)
              have hksl : (srtS (rs.map (·.r))).length = rs.length := by rw [srtS_len, List.length_map]
              refine RS.perm (perm_in2 _ _ _ _) ?_
              refine RS.q rfl (QO.move) ?_
              refine RS.callH (⟨gr, 9, (rs.map (·.r)).map sv ++ jr⟩ :: ⟨g2, 52, [sv t, iv rate, .slice A l.length c]⟩ :: ⟨gm, .obj (.map es clk), []⟩ :: fam rs) rfl (by rfl) ok106 (by rfl) (by repeat (first | exact List.Sublist.refl _ | exact List.nil_sublist _ | refine List.Sublist.cons_cons _ ?_ | refine List.Sublist.cons _ ?_ | exact Sbp.refl | exact Sbp.nil | refine Sbp.cons (by repeat (first | exact Rem.head | apply Rem.tail)) ?_ | exact Sbp.app | refine Sbp.skip ?_ | exact List.sublist_append_left _ _ | exact List.sublist_append_right _ _)) (fun w ho => (by have h9 := sortS gr cr (rs.map (·.r)) jr (⟨g2, 52, [sv t, iv rate, .slice A l.length c]⟩ :: ⟨gm, .obj (.map es clk), []⟩ :: fam rs) W 9 (by rw [List.length_map]; omega); rw [List.length_map] at h9; exact h9)) ?_
              rintro _ _ ⟨rfl, rfl⟩
              refine RS.nil ?_
              refine thenC_n ?_
              refine CS.seq ?_
              refine CS.region ?_
              refine RS.q rfl (QO.assign) ?_
              refine RS.nil ?_
              refine thenC_n ?_
              refine CS.seq ?_
              refine CS.seq ?_
              refine CS.region ?_
              refine RS.q rfl (QO.move) ?_
              refine RS.q rfl (QO.lenS Tryd.underlying152 (by rfl)) ?_
              refine RS.q rfl (QO.move) ?_
              refine RS.nil ?_
              refine thenC_n ?_
              refine CS.block ?_
              refine CS.loop (X := Nat × List RE × List RG × Value × HL) (12 :: 14 :: 15 :: 16 :: 17 :: 18 :: 104 :: 105 :: 106 :: 107 :: 108 :: 109 :: 110 :: 111 :: 112 :: 113 :: 114 :: 115 :: 116 :: 117 :: 118 :: 119 :: 120 :: 121 :: 122 :: 123 :: 124 :: 125 :: 126 :: 127 :: 128 :: 129 :: 130 :: 131 :: 132 :: 133 :: 134 :: 135 :: 136 :: 137 :: 138 :: 139 :: 140 :: 141 :: 142 :: 143 :: 144 :: 145 :: 146 :: 147 :: 148 :: 149 :: 150 :: 151 :: 152 :: []) (fun z => [(104, iv (z.1 : Int)), (12, z.2.2.2.1)]) (fun z => ⟨g2, 52, [sv t, iv rate, .slice A l.length c]⟩ :: ⟨gm, .obj (.map es clk), []⟩ :: ⟨gr, 9, (srtS (rs.map (·.r))).map sv ++ jr⟩ :: (fam z.2.1 ++ z.2.2.2.2)) (fun z => z.1 ≤ (srtS (rs.map (·.r))).length ∧ ((z.2.1).map (·.r)).Perm ((srtS (rs.map (·.r))).drop z.1) ∧ (∀ x ∈ z.2.1, Left es 91 x) ∧ (z.2.2.1).map (·.1) = (srtS (rs.map (·.r))).take z.1 ∧ (∀ g ∈ z.2.2.1, (∀ p ∈ g.2, p.reel = g.1) ∧ g.2.Pairwise (fun x y => ltI y x = false)) ∧ ((z.2.2.1).flatMap (·.2) ++ (z.2.1).flatMap (·.l)).Perm (pullsL l hd l.length) ∧ Row 91 3 z.2.2.2.1 (mrg ((z.2.2.1).flatMap (·.2))).length (pls (mrg ((z.2.2.1).flatMap (·.2)))) z.2.2.2.2) (fun z => (srtS (rs.map (·.r))).length - z.1) (0, rs, [], .slice none 0 0, []) ⟨Nat.zero_le _, perm_drop0, hleft0, rfl, by simp, rs_perm hgrp, .nil⟩ ?_ ?_ ?_
              · exact kn_cons (by rfl) (kn_cons (by rfl) kn_nil)
              · exact (show Sbp (⟨g2, 52, [sv t, iv rate, .slice A l.length c]⟩ :: ⟨gm, .obj (.map es clk), []⟩ :: ⟨gr, 9, (srtS (rs.map (·.r))).map sv ++ jr⟩ :: (fam rs ++ [])) _ from by rw [List.append_nil]; exact (by repeat (first | exact List.Sublist.refl _ | exact List.nil_sublist _ | refine List.Sublist.cons_cons _ ?_ | refine List.Sublist.cons _ ?_ | exact Sbp.refl | exact Sbp.nil | refine Sbp.cons (by repeat (first | exact Rem.head | apply Rem.tail)) ?_ | exact Sbp.app | refine Sbp.skip ?_ | exact List.sublist_append_left _ _ | exact List.sublist_append_right _ _)))
              · intro z gj21 hz
                clear hrow
                obtain ⟨j, rl, G, vo, Ho⟩ := z
                obtain ⟨hj, hpk9, hleft, hG, hGo, hall, hrow⟩ := hz
                simp only at hj hpk9 hleft hG hGo hall hrow
                show CS _ _ _ _ _ (puts (mix _ _ _) [(104, iv (j : Int)), (12, vo)]) (⟨g2, 52, [sv t, iv rate, .slice A l.length c]⟩ :: ⟨gm, .obj (.map es clk), []⟩ :: ⟨gr, 9, (srtS (rs.map (·.r))).map sv ++ jr⟩ :: (fam rl ++ Ho))
                refine CS.seq ?_
                refine CS.region ?_
                refine RS.q rfl (QO.lss (by rfl) (by rfl)) ?_
                refine RS.nil ?_
                refine thenC_n ?_
                refine CS.seq ?_
                refine CS.cond (by rfl) (fun hb6 => ?_) (fun hb6 => ?_)
                · have hb6p := of_decide_eq_true hb6
                  refine CS.skip ?_
                  refine thenC_n ?_
                  refine CS.seq ?_
                  refine CS.block ?_
                  refine CS.seq ?_
                  refine CS.region ?_
                  have hjl : j < (srtS (rs.map (·.r))).length := by omega
                  have hxp := pick_reel hpk9 hjl
                  obtain ⟨Ax, x, Bx, hrl9, hxr, hpm⟩ := hxp
                  subst hrl9
                  have hxL := hleft x (by simp)
                  obtain ⟨hxmg, hxrow, hxne, hxown⟩ := hxL
                  have hxpos : 0 < x.l.length := List.length_pos_iff.2 hxne
                  have hxs := hxrow.some hxpos
                  obtain ⟨gx, cx, jx, hxv, hxH, hxc1, hxc2, hxc3⟩ := hxs
                  have hxP : ∀ p ∈ x.l, PlP p := fun p hp => hPall p (hall.subset (List.mem_append_right _ (List.mem_flatMap.2 ⟨x, by simp, hp⟩)))
                  have hkr : ((srtS (rs.map (·.r))).getD j []).length ≤ maxLen := by
                    rw [← hxr]
                    obtain ⟨p, hp⟩ := List.exists_mem_of_ne_nil _ hxne
                    rw [← hxown p hp]
                    exact (hxP p hp).2.2
                  have hxn5 : x.l.length ≤ 500 := by
                    have h9 := hall.length_eq
                    simp only [List.length_append, List.flatMap_append, List.flatMap_cons, pullsL_len] at h9
                    omega
                  have hPx : ∀ i, PlP ((fun i => x.l.getD i default) i) := fun i => by
                    show PlP (x.l.getD i default)
                    by_cases h9 : i < x.l.length
                    · rw [List.getD_eq_getElem?_getD, List.getElem?_eq_getElem h9]
                      exact hxP _ (List.getElem_mem h9)
                    · rw [List.getD_eq_getElem?_getD, List.getElem?_eq_none (by omega)]
                      exact ⟨by decide, by decide, by decide⟩
                  first | (refine RS.q rfl (QO.idx0 Tryd.underlying152 ty9 (by rfl) (by rfl) (by rfl) (by omega)) ?_) | (refine RS.q rfl (QO.idxn Tryd.underlying152 ty9 (by rfl) (by rfl) (by rfl) (by omega)) ?_) | (refine RS.q rfl (QO.idx1 Tryd.underlying152 ty9 (by rfl) (by rfl) (by omega) (by omega)) ?_)
                  refine RS.q rfl (QO.load ty9 (by rfl) (by repeat (first | exact List.Mem.head _ | refine List.Mem.tail _ ?_)) (ks_cell (by omega))) ?_
                  refine RS.q rfl (QO.assign) ?_
                  refine RS.nil ?_
                  refine thenC_n ?_
                  refine CS.seq ?_
                  refine CS.region ?_
                  refine RS.q rfl (QO.move) ?_
                  refine RS.q rfl (QO.move) ?_
                  refine RS.qv rfl (QO.look strK Tryd.underlying151 z86 (.inr ⟨_, (by repeat (first | exact List.Mem.head _ | refine List.Mem.tail _ ?_))⟩) hfam.ok (by rfl) (by rfl) (hkey9 hkr)) (show lookV false (.slice none 0 0) (mg es (sv ((srtS (rs.map (·.r))).getD j []))) = .slice (some ⟨gx, 0, none⟩) x.l.length cx from by rw [← hxr, hxmg, hxv]; rfl) ?_
                  refine RS.q rfl (QO.assign) ?_
                  refine RS.nil ?_
                  refine thenC_n ?_
                  refine CS.seq ?_
                  refine CS.region ?_
                  have hq9 := fam_out Ax Bx x Ho
                  have hxH2 : x.H = [⟨gx, 91, fl (fun i => x.l.getD i default) x.l.length jx⟩] := by unfold fl; rw [lst_getD]; exact hxH
                  rw [hxH2] at hq9
                  refine RS.perm ((((hq9.cons _).cons _).cons _).trans (perm_in3 _ _ _ _ _)) ?_
                  refine RS.q rfl (QO.move) ?_
                  refine RS.callH (⟨gx, 91, fl (fun i => x.l.getD i default) x.l.length jx⟩ :: ⟨g2, 52, [sv t, iv rate, .slice A l.length c]⟩ :: ⟨gm, .obj (.map es clk), []⟩ :: ⟨gr, 9, (srtS (rs.map (·.r))).map sv ++ jr⟩ :: (fam (Ax ++ Bx) ++ Ho)) rfl (by rfl) ok107 (by rfl) (by repeat (first | exact List.Sublist.refl _ | exact List.nil_sublist _ | refine List.Sublist.cons_cons _ ?_ | refine List.Sublist.cons _ ?_ | exact Sbp.refl | exact Sbp.nil | refine Sbp.cons (by repeat (first | exact Rem.head | apply Rem.tail)) ?_ | exact Sbp.app | refine Sbp.skip ?_ | exact List.sublist_append_left _ _ | exact List.sublist_append_right _ _)) (fun w ho => sortStable_ gx x.l.length cx jx (⟨g2, 52, [sv t, iv rate, .slice A l.length c]⟩ :: ⟨gm, .obj (.map es clk), []⟩ :: ⟨gr, 9, (srtS (rs.map (·.r))).map sv ++ jr⟩ :: (fam (Ax ++ Bx) ++ Ho)) _ 108 (by omega) ltI ordI ok108 (fun wd Hd _ x y hx hy => cmpI1 x y wd hx hy) _ hPx) ?_
                  rintro _ _ ⟨d2, rfl, m2, s2⟩
                  have hxd : x.l.Perm (lst d2 x.l.length) := by have h9 := m2.2.2; rw [lst_getD] at h9; exact h9.symm
                  refine RS.nil ?_
                  refine thenC_n ?_
                  refine CS.seq ?_
                  refine CS.region ?_
                  refine RS.q rfl (QO.move) ?_
                  refine RS.q rfl (QO.lenS Tryd.underlying86 (by rfl)) ?_
                  refine RS.q rfl (QO.move) ?_
                  refine RS.nil ?_
                  refine thenC_n ?_
                  refine CS.block ?_
                  refine CS.loop (X := Nat × Value × HL) (12 :: 16 :: 17 :: 18 :: 115 :: 116 :: 117 :: 118 :: 119 :: 120 :: 121 :: 122 :: 123 :: 124 :: 125 :: 126 :: 127 :: 128 :: 129 :: 130 :: 131 :: 132 :: 133 :: 134 :: 135 :: 136 :: 137 :: 138 :: 139 :: 140 :: 141 :: 142 :: 143 :: 144 :: 145 :: 146 :: 147 :: 148 :: 149 :: 150 :: 151 :: []) (fun z => [(115, iv (z.1 : Int)), (12, z.2.1)]) (fun z => ⟨gx, 91, fl d2 x.l.length jx⟩ :: ⟨g2, 52, [sv t, iv rate, .slice A l.length c]⟩ :: ⟨gm, .obj (.map es clk), []⟩ :: ⟨gr, 9, (srtS (rs.map (·.r))).map sv ++ jr⟩ :: (fam (Ax ++ Bx) ++ z.2.2)) (fun z => z.1 ≤ x.l.length ∧ Row 91 3 z.2.1 (mrg (G.flatMap (·.2) ++ (lst d2 x.l.length).take z.1)).length (pls (mrg (G.flatMap (·.2) ++ (lst d2 x.l.length).take z.1))) z.2.2) (fun z => x.l.length - z.1) (0, vo, Ho) ⟨Nat.zero_le _, by rw [List.take_zero, List.append_nil]; exact hrow⟩ ?_ ?_ ?_
                  · exact kn_cons (by rfl) (kn_cons (by rfl) kn_nil)
                  · exact (by repeat (first | exact List.Sublist.refl _ | exact List.nil_sublist _ | refine List.Sublist.cons_cons _ ?_ | refine List.Sublist.cons _ ?_ | exact Sbp.refl | exact Sbp.nil | refine Sbp.cons (by repeat (first | exact Rem.head | apply Rem.tail)) ?_ | exact Sbp.app | refine Sbp.skip ?_ | exact List.sublist_append_left _ _ | exact List.sublist_append_right _ _))
                  · intro z gj26 hz
                    clear hrow
                    obtain ⟨i, vi, Hi⟩ := z
                    obtain ⟨hi, hrow⟩ := hz
                    simp only at hi hrow
                    show CS _ _ _ _ _ (puts (mix _ _ _) [(115, iv (i : Int)), (12, vi)]) (⟨gx, 91, fl d2 x.l.length jx⟩ :: ⟨g2, 52, [sv t, iv rate, .slice A l.length c]⟩ :: ⟨gm, .obj (.map es clk), []⟩ :: ⟨gr, 9, (srtS (rs.map (·.r))).map sv ++ jr⟩ :: (fam (Ax ++ Bx) ++ Hi))
                    refine CS.seq ?_
                    refine CS.region ?_
                    refine RS.q rfl (QO.lss (by rfl) (by rfl)) ?_
                    refine RS.nil ?_
                    refine thenC_n ?_
                    refine CS.seq ?_
                    refine CS.cond (by rfl) (fun hb7 => ?_) (fun hb7 => ?_)
                    · have hb7p := of_decide_eq_true hb7
                      refine CS.skip ?_
                      refine thenC_n ?_
                      refine CS.seq ?_
                      refine CS.block ?_
                      refine CS.seq ?_
                      refine CS.region ?_
                      have hx6 : ∃ p, d2 i = p := ⟨_, rfl⟩
                      obtain ⟨p, hp⟩ := hx6
                      have hcell6 := fl_at (d := d2) (n := x.l.length) (i := i) (junk := jx) (by omega)
                      rw [hp] at hcell6
                      have hpm6 : p ∈ (lst d2 x.l.length) := by rw [← hp]; exact List.mem_of_getElem? (lst_at d2 (show i < x.l.length by omega))
                      have hpr : p.reel = x.r := hxown p (hxd.symm.subset hpm6)
                      have hml : (mrg (G.flatMap (·.2) ++ (lst d2 x.l.length).take i)).length ≤ 600 := by
                        have h9 := mrg_len_le (G.flatMap (·.2) ++ (lst d2 x.l.length).take i)
                        have h8 := hall.length_eq
                        simp only [List.length_append, pullsL_len, List.flatMap_append, List.flatMap_cons] at h8
                        rw [List.length_append, List.length_take, lst_len] at h9
                        omega
                      refine RS.q rfl (QO.move) ?_
                      refine RS.q rfl (QO.idx Tryd.underlying86 ty91 (by rfl) (by rfl) (by omega) (by omega)) ?_
                      refine RS.q rfl (QO.loadA ty91 (by rfl) (by repeat (first | exact List.Mem.head _ | refine List.Mem.tail _ ?_)) hcell6 rfl) ?_
                      refine RS.alloc rfl ty91 ?_
                      intro g17
                      refine RS.q rfl (QO.assign) ?_
                      first | refine RS.storeB ty91 (by rfl) (by rfl) (by rfl) (by rfl) (by rfl) (by repeat (first | exact Upd.head | apply Upd.tail | exact Upd.app _ Upd.head)) (by rfl) ?_ | refine RS.storeP ty91 (by rfl) (by rfl) (by rfl) (by rfl) (by rfl) (by repeat (first | exact Upd.head | apply Upd.tail | exact Upd.app _ Upd.head)) (by rfl) ?_
                      refine RS.nil ?_
                      refine thenC_n ?_
                      refine CS.seq ?_
                      by_cases hsp28 : i = 0
                      · refine CS.region ?_
                        have hi0 := hsp28
                        have hx8 := hrow.slice
                        obtain ⟨Ao, co, hvo, hco1, hco2⟩ := hx8
                        subst hvo
                        refine RS.q rfl (QO.move) ?_
                        refine RS.q rfl (QO.lenS Tryd.underlying86 (by rfl)) ?_
                        first | (refine RS.q rfl (QO.sub (by rfl) (by rfl) (by omega) (by omega)) ?_) | (refine RS.q rfl (QO.ibin (by rfl) (by rfl) trivial) ?_)
                        refine RS.q rfl (QO.assign) ?_
                        refine RS.nil ?_
                        refine thenC_n ?_
                        refine CS.seq ?_
                        refine CS.draw 12 rfl (by kernel_rfl) (by kernel_rfl) ?_
                        refine RT.take (i := 0) rfl (by kernel_rfl) rfl (QO.move) ?_
                        refine RT.take (i := 1) rfl (by kernel_rfl) rfl (QO.gtr (by rfl) (by rfl)) ?_
                        refine RT.take (i := 2) rfl (by kernel_rfl) rfl (QO.move) ?_
                        refine RT.takeOff (i := 3) (dj := 125) rfl rfl (.inl (congrArg Value.bool (decide_eq_false (by omega)))) (fun _ => rfl) (by kernel_rfl) rfl ?_
                        refine RT.takeOff (i := 4) (dj := 125) rfl rfl (.inl (congrArg Value.bool (decide_eq_false (by omega)))) (fun _ => rfl) (by kernel_rfl) rfl ?_
                        refine RT.takeOff (i := 5) (dj := 125) rfl rfl (.inl (congrArg Value.bool (decide_eq_false (by omega)))) (fun _ => rfl) (by kernel_rfl) rfl ?_
                        refine RT.takeOff (i := 6) (dj := 125) rfl rfl (.inl (congrArg Value.bool (decide_eq_false (by omega)))) (fun _ => rfl) (by kernel_rfl) rfl ?_
                        refine RT.takeOff (i := 7) (dj := 125) rfl rfl (.inl (congrArg Value.bool (decide_eq_false (by omega)))) (fun _ => rfl) (by kernel_rfl) rfl ?_
                        refine RT.takeOff (i := 8) (dj := 125) rfl rfl (.inl (congrArg Value.bool (decide_eq_false (by omega)))) (fun _ => rfl) (by kernel_rfl) rfl ?_
                        refine RT.takeOff (i := 9) (dj := 125) rfl rfl (.inl (congrArg Value.bool (decide_eq_false (by omega)))) (fun _ => rfl) (by kernel_rfl) rfl ?_
                        refine RT.takeOff (i := 10) (dj := 125) rfl rfl (.inl (congrArg Value.bool (decide_eq_false (by omega)))) (fun _ => rfl) (by kernel_rfl) rfl ?_
                        refine RT.take (i := 11) rfl (by kernel_rfl) rfl (QO.pickF (by rfl) (decide_eq_false (by omega)) (by rfl)) ?_
                        refine RT.done (by kernel_rfl) ?_
                        refine thenC_n ?_
                        refine CS.condF (by rfl) rfl ?_
                        refine CS.region ?_
                        refine RS.q rfl (QO.move) ?_
                        first | (refine RS.q rfl (QO.loadB ty91 (by rfl) (by repeat (first | exact List.Mem.head _ | refine List.Mem.tail _ ?_)) (by rfl)) ?_) | (refine RS.q rfl (QO.loadA ty91 (by rfl) (by repeat (first | exact List.Mem.head _ | refine List.Mem.tail _ ?_)) (by rfl) (by rfl)) ?_) | (refine RS.q rfl (QO.loadOA ty91 (by rfl) (by assumption) (by rfl)) ?_)
                        refine RS.buildSlice rfl Tryd.underlying86 ty91 (by decide) (by decide) (by rfl) (by rfl) ?_
                        intro g149
                        refine RS.appendRow rfl Tryd.underlying86 ty91 (by rfl) hrow (by repeat (first | exact Suf.base | exact Suf.any _ _ | apply Suf.cons)) (by rfl) (Src.blk (by repeat (first | exact List.Mem.head _ | refine List.Mem.tail _ ?_))) (by rfl) (by rfl) (by decide) (by decide) (by unfold maxLen; omega) (by omega) ?_
                        intro v150 H150 hrow150
                        refine RS.q rfl (QO.assign) ?_
                        refine RS.nil ?_
                        refine blockC_n ?_
                        refine thenC_n ?_
                        refine CS.region ?_
                        first | (refine RS.q rfl (QO.add (by rfl) (by rfl) (by omega) (by omega)) ?_) | (refine RS.q rfl (QO.ibin (by rfl) (by rfl) trivial) ?_)
                        refine RS.q rfl (QO.move) ?_
                        refine RS.nil ?_
                        refine loopQ_n (by intro t ht; repeat (first | with_reducible exact rfl | exact frame_puts ht (frame_mix ht) _ rfl | (refine frame_put rfl ht ?_) | (refine frame_puts ht ?_ _ rfl) | exact frame_mix ht | (refine frame_mix2 rfl ht ?_) | exact rfl)) ?_
                        have hnx3 : (mrg (G.flatMap (·.2) ++ (lst d2 x.l.length).take (i + 1))) = mstep (mrg (G.flatMap (·.2) ++ (lst d2 x.l.length).take i)) p := by rw [take_next (l := (lst d2 x.l.length)) (i := i) (p := p) (by rw [← hp]; exact lst_at d2 (by omega)), ← List.append_assoc, mrg_app]
                        have hMe : (mrg (G.flatMap (·.2) ++ (lst d2 x.l.length).take (i + 1))) = (mrg (G.flatMap (·.2) ++ (lst d2 x.l.length).take i)) ++ [p] := by rw [hnx3, hi0, List.take_zero, List.append_nil]; exact step_first hG (fun g hg => (hGo g hg).1) hks hjl (by rw [← hxr]; exact hpr)
                        have hRw : Row 91 3 v150 (mrg (G.flatMap (·.2) ++ (lst d2 x.l.length).take (i + 1))).length (pls (mrg (G.flatMap (·.2) ++ (lst d2 x.l.length).take (i + 1)))) H150 := row_app hMe hrow150
                        exact ⟨(i + 1, v150, H150), ⟨by show i + 1 ≤ x.l.length; omega, hRw⟩, by show x.l.length - (i + 1) < x.l.length - i; omega, kn_cons (by rfl) (kn_cons (by rfl) kn_nil), (by repeat (first | exact List.Sublist.refl _ | exact List.nil_sublist _ | refine List.Sublist.cons_cons _ ?_ | refine List.Sublist.cons _ ?_ | exact Sbp.refl | exact Sbp.nil | refine Sbp.cons (by repeat (first | exact Rem.head | apply Rem.tail)) ?_ | exact Sbp.app | refine Sbp.skip ?_ | exact List.sublist_append_left _ _ | exact List.sublist_append_right _ _))⟩
                      · refine CS.region ?_
                        have hx8 := mrg_reel (G.flatMap (·.2) ++ (lst d2 x.l.length).take (i - 1)) (d2 (i - 1))
                        obtain ⟨M0, q, hM, hqr⟩ := hx8
                        rw [List.append_assoc, ← take_next (l := (lst d2 x.l.length)) (i := i - 1) (p := d2 (i - 1)) (lst_at d2 (by omega)), Nat.sub_add_cancel (by omega)] at hM
                        have hqr : q.reel = p.reel := by
                          rw [hqr, hpr]
                          exact hxown _ (hxd.symm.subset (List.mem_of_getElem? (lst_at d2 (show i - 1 < x.l.length by omega))))
                        rw [hM] at hrow hml
                        have hM0l : (M0 ++ [q]).length = M0.length + 1 := by rw [List.length_append]; rfl
                        have hx9 := hrow.some3 (by simp)
                        obtain ⟨go, cap2, junk2, hvo2, hHo2, hcp, hcm, _, hjl2⟩ := hx9
                        subst hvo2
                        subst hHo2
                        refine RS.q rfl (QO.move) ?_
                        refine RS.q rfl (QO.lenS Tryd.underlying86 (by rfl)) ?_
                        first | (refine RS.qv rfl (QO.sub (by rfl) (by rfl) (by omega) (by omega)) (congrArg iv (show (((M0 ++ [q]).length : Nat) : Int) - 1 = ((M0.length : Nat) : Int) by rw [List.length_append]; simp)) ?_) | (refine RS.qv rfl (QO.ibin (by rfl) (by rfl) trivial) (congrArg iv (show (((M0 ++ [q]).length : Nat) : Int) - 1 = ((M0.length : Nat) : Int) by rw [List.length_append]; simp)) ?_)
                        refine RS.q rfl (QO.assign) ?_
                        refine RS.nil ?_
                        refine thenC_n ?_
                        refine CS.seq ?_
                        refine CS.draw 12 rfl (by kernel_rfl) (by kernel_rfl) ?_
                        refine RT.take (i := 0) rfl (by kernel_rfl) rfl (QO.move) ?_
                        refine RT.take (i := 1) rfl (by kernel_rfl) rfl (QO.gtr (by rfl) (by rfl)) ?_
                        refine RT.take (i := 2) rfl (by kernel_rfl) rfl (QO.move) ?_
                        refine RT.takeOn (i := 3) (dj := 125) rfl rfl (congrArg Value.bool (decide_eq_true (by omega))) (by kernel_rfl) rfl (QO.fieldAddr fo91_1 (by rfl)) ?_
                        first | (refine RT.takeOn (i := 4) (dj := 125) rfl rfl (congrArg Value.bool (decide_eq_true (by omega))) (by kernel_rfl) rfl (QO.load ty3 (by rfl) (by repeat (first | exact List.Mem.head _ | refine List.Mem.tail _ ?_)) (by rfl)) ?_) | (refine RT.takeOn (i := 4) (dj := 125) rfl rfl (congrArg Value.bool (decide_eq_true (by omega))) (by kernel_rfl) rfl (QO.loadO ty3 (by rfl) (by assumption)) ?_) | (refine RT.takeOn (i := 4) (dj := 125) rfl rfl (congrArg Value.bool (decide_eq_true (by omega))) (by kernel_rfl) rfl (QO.load ty3 (by rfl) (by repeat (first | exact List.Mem.head _ | refine List.Mem.tail _ ?_)) (by assumption)) ?_)
                        refine RT.takeOn (i := 5) (dj := 125) rfl rfl (congrArg Value.bool (decide_eq_true (by omega))) (by kernel_rfl) rfl (QO.move) ?_
                        refine RT.takeOn (i := 6) (dj := 125) rfl rfl (congrArg Value.bool (decide_eq_true (by omega))) (by kernel_rfl) rfl (QO.move) ?_
                        refine RT.takeOn (i := 7) (dj := 125) rfl rfl (congrArg Value.bool (decide_eq_true (by omega))) (by kernel_rfl) rfl (QO.idx Tryd.underlying86 ty91 (by rfl) (by rfl) (by omega) (by omega)) ?_
                        refine RT.takeOn (i := 8) (dj := 125) rfl rfl (congrArg Value.bool (decide_eq_true (by omega))) (by kernel_rfl) rfl (QO.fieldAddr fo91_2 (by rfl)) ?_
                        refine RT.takeOn (i := 9) (dj := 125) rfl rfl (congrArg Value.bool (decide_eq_true (by omega))) (by kernel_rfl) rfl (QO.load ty3 (by rfl) (by repeat (first | exact List.Mem.head _ | refine List.Mem.tail _ ?_ | exact List.mem_append_right _ (List.Mem.head _))) pls_last) ?_
                        refine RT.takeOn (i := 10) (dj := 125) rfl rfl (congrArg Value.bool (decide_eq_true (by omega))) (by kernel_rfl) rfl (QO.leq (by rfl) (by rfl)) ?_
                        refine RT.take (i := 11) rfl (by kernel_rfl) rfl (QO.pickT (by rfl) (decide_eq_true (by omega)) (by rfl)) ?_
                        refine RT.done (by kernel_rfl) ?_
                        refine thenC_n ?_
                        refine CS.cond (by rfl) (fun hb8 => ?_) (fun hb8 => ?_)
                        · have hb8p := of_decide_eq_true hb8
                          refine CS.draw2 [12] (HT := ⟨g17, 91, [sv p.reel, iv p.i, iv p.o]⟩ :: ⟨gx, 91, fl d2 x.l.length jx⟩ :: ⟨g2, 52, [sv t, iv rate, .slice A l.length c]⟩ :: ⟨gm, .obj (.map es clk), []⟩ :: ⟨gr, 9, (srtS (rs.map (·.r))).map sv ++ jr⟩ :: []) (by repeat (first | exact List.Sublist.refl _ | exact List.nil_sublist _ | refine List.Sublist.cons_cons _ ?_ | refine List.Sublist.cons _ ?_ | exact Sbp.refl | exact Sbp.nil | refine Sbp.cons (by repeat (first | exact Rem.head | apply Rem.tail)) ?_ | exact Sbp.app | refine Sbp.skip ?_ | exact List.sublist_append_left _ _ | exact List.sublist_append_right _ _)) rfl (by kernel_rfl) ?_
                          refine RT2.take1 (i := 0) rfl (by kernel_rfl) rfl (QO.move) ?_
                          refine RT2.take1 (i := 1) rfl (by kernel_rfl) rfl (QO.move) ?_
                          refine RT2.take1 (i := 2) rfl (by kernel_rfl) rfl (QO.move) ?_
                          refine RT2.take1 (i := 3) rfl (by kernel_rfl) rfl (QO.move) ?_
                          refine RT2.take1 (i := 4) rfl (by kernel_rfl) rfl (QO.idx Tryd.underlying86 ty91 (by rfl) (by rfl) (by omega) (by omega)) ?_
                          refine RT2.take1 (i := 5) rfl (by kernel_rfl) rfl (QO.fieldAddr fo91_2 (by rfl)) ?_
                          refine RT2.take1 (i := 6) rfl (by kernel_rfl) rfl (QO.load ty3 (by rfl) (by repeat (first | exact List.Mem.head _ | refine List.Mem.tail _ ?_ | exact List.mem_append_right _ (List.Mem.head _))) pls_last) ?_
                          refine RT2.take1 (i := 7) rfl (by kernel_rfl) rfl (QO.fieldAddr fo91_2 (by rfl)) ?_
                          first | (refine RT2.take1 (i := 8) rfl (by kernel_rfl) rfl (QO.load ty3 (by rfl) (by repeat (first | exact List.Mem.head _ | refine List.Mem.tail _ ?_)) (by rfl)) ?_) | (refine RT2.take1 (i := 8) rfl (by kernel_rfl) rfl (QO.loadO ty3 (by rfl) (by assumption)) ?_) | (refine RT2.take1 (i := 8) rfl (by kernel_rfl) rfl (QO.load ty3 (by rfl) (by repeat (first | exact List.Mem.head _ | refine List.Mem.tail _ ?_)) (by assumption)) ?_)
                          refine RT2.take1 (i := 9) rfl (by kernel_rfl) rfl (QO.max2 (by rfl) (by rfl)) ?_
                          refine RT2.take2 (i := 10) rfl (by kernel_rfl) rfl (QO.idx Tryd.underlying86 ty91 (by rfl) (by rfl) (by omega) (by omega)) ?_
                          refine RT2.take1 (i := 11) rfl (by kernel_rfl) rfl (QO.fieldAddr fo91_2 (by rfl)) ?_
                          refine RT2.oneX (i := 12) (by kernel_rfl) rfl (by kernel_rfl) ?_
                          refine RS.store1e ty3 rfl (by rfl) (by rfl) (by rfl) pls_setlast (by repeat (first | exact Upd.head | apply Upd.tail | exact Upd.app _ Upd.head)) pls_fit ?_
                          refine RS.nil ⟨(by repeat (first | exact List.Sublist.refl _ | exact List.nil_sublist _ | refine List.Sublist.cons_cons _ ?_ | refine List.Sublist.cons _ ?_ | exact Sbp.refl | exact Sbp.nil | refine Sbp.cons (by repeat (first | exact Rem.head | apply Rem.tail)) ?_ | exact Sbp.app | refine Sbp.skip ?_ | exact List.sublist_append_left _ _ | exact List.sublist_append_right _ _)), ?_⟩
                          refine RT2.done (by kernel_rfl) ?_
                          refine blockC_n ?_
                          refine thenC_n ?_
                          refine CS.region ?_
                          first | (refine RS.q rfl (QO.add (by rfl) (by rfl) (by omega) (by omega)) ?_) | (refine RS.q rfl (QO.ibin (by rfl) (by rfl) trivial) ?_)
                          refine RS.q rfl (QO.move) ?_
                          refine RS.nil ?_
                          refine loopQ_n (by intro t ht; repeat (first | with_reducible exact rfl | exact frame_puts ht (frame_mix ht) _ rfl | (refine frame_put rfl ht ?_) | (refine frame_puts ht ?_ _ rfl) | exact frame_mix ht | (refine frame_mix2 rfl ht ?_) | exact rfl)) ?_
                          have hnx3 : (mrg (G.flatMap (·.2) ++ (lst d2 x.l.length).take (i + 1))) = mstep (mrg (G.flatMap (·.2) ++ (lst d2 x.l.length).take i)) p := by rw [take_next (l := (lst d2 x.l.length)) (i := i) (p := p) (by rw [← hp]; exact lst_at d2 (by omega)), ← List.append_assoc, mrg_app]
                          have hMe : (mrg (G.flatMap (·.2) ++ (lst d2 x.l.length).take (i + 1))) = M0 ++ [⟨q.reel, q.i, max q.o p.o⟩] := by rw [hnx3, hM, mstep_last, if_pos ⟨hqr, by omega⟩]
                          have hRw : Row 91 3 (.slice (some ⟨go, 0, none⟩) (M0 ++ [q]).length cap2) (mrg (G.flatMap (·.2) ++ (lst d2 x.l.length).take (i + 1))).length (pls (mrg (G.flatMap (·.2) ++ (lst d2 x.l.length).take (i + 1)))) [⟨go, 91, pls (M0 ++ [⟨q.reel, q.i, max q.o p.o⟩]) ++ junk2⟩] := row_put hMe (row_setlast rfl hcp hcm hjl2)
                          exact ⟨(i + 1, (.slice (some ⟨go, 0, none⟩) (M0 ++ [q]).length cap2), [⟨go, 91, pls (M0 ++ [⟨q.reel, q.i, max q.o p.o⟩]) ++ junk2⟩]), ⟨by show i + 1 ≤ x.l.length; omega, hRw⟩, by show x.l.length - (i + 1) < x.l.length - i; omega, kn_cons (by rfl) (kn_cons (by rfl) kn_nil), (by repeat (first | exact List.Sublist.refl _ | exact List.nil_sublist _ | refine List.Sublist.cons_cons _ ?_ | refine List.Sublist.cons _ ?_ | exact Sbp.refl | exact Sbp.nil | refine Sbp.cons (by repeat (first | exact Rem.head | apply Rem.tail)) ?_ | exact Sbp.app | refine Sbp.skip ?_ | exact List.sublist_append_left _ _ | exact List.sublist_append_right _ _))⟩
                        · have hb8p := of_decide_eq_false hb8
                          refine CS.region ?_
                          refine RS.q rfl (QO.move) ?_
                          first | (refine RS.q rfl (QO.loadB ty91 (by rfl) (by repeat (first | exact List.Mem.head _ | refine List.Mem.tail _ ?_)) (by rfl)) ?_) | (refine RS.q rfl (QO.loadA ty91 (by rfl) (by repeat (first | exact List.Mem.head _ | refine List.Mem.tail _ ?_)) (by rfl) (by rfl)) ?_) | (refine RS.q rfl (QO.loadOA ty91 (by rfl) (by assumption) (by rfl)) ?_)
                          refine RS.buildSlice rfl Tryd.underlying86 ty91 (by decide) (by decide) (by rfl) (by rfl) ?_
                          intro g149
                          refine RS.appendRow rfl Tryd.underlying86 ty91 (by rfl) hrow (by repeat (first | exact Suf.base | exact Suf.any _ _ | apply Suf.cons)) (by rfl) (Src.blk (by repeat (first | exact List.Mem.head _ | refine List.Mem.tail _ ?_))) (by rfl) (by rfl) (by decide) (by decide) (by unfold maxLen; omega) (by omega) ?_
                          intro v150 H150 hrow150
                          refine RS.q rfl (QO.assign) ?_
                          refine RS.nil ?_
                          refine blockC_n ?_
                          refine thenC_n ?_
                          refine CS.region ?_
                          first | (refine RS.q rfl (QO.add (by rfl) (by rfl) (by omega) (by omega)) ?_) | (refine RS.q rfl (QO.ibin (by rfl) (by rfl) trivial) ?_)
                          refine RS.q rfl (QO.move) ?_
                          refine RS.nil ?_
                          refine loopQ_n (by intro t ht; repeat (first | with_reducible exact rfl | exact frame_puts ht (frame_mix ht) _ rfl | (refine frame_put rfl ht ?_) | (refine frame_puts ht ?_ _ rfl) | exact frame_mix ht | (refine frame_mix2 rfl ht ?_) | exact rfl)) ?_
                          have hnx3 : (mrg (G.flatMap (·.2) ++ (lst d2 x.l.length).take (i + 1))) = mstep (mrg (G.flatMap (·.2) ++ (lst d2 x.l.length).take i)) p := by rw [take_next (l := (lst d2 x.l.length)) (i := i) (p := p) (by rw [← hp]; exact lst_at d2 (by omega)), ← List.append_assoc, mrg_app]
                          have hMe : (mrg (G.flatMap (·.2) ++ (lst d2 x.l.length).take (i + 1))) = (M0 ++ [q]) ++ [p] := by rw [hnx3, hM, mstep_last, if_neg (fun hh => by omega)]
                          have hRw : Row 91 3 v150 (mrg (G.flatMap (·.2) ++ (lst d2 x.l.length).take (i + 1))).length (pls (mrg (G.flatMap (·.2) ++ (lst d2 x.l.length).take (i + 1)))) H150 := row_app hMe hrow150
                          exact ⟨(i + 1, v150, H150), ⟨by show i + 1 ≤ x.l.length; omega, hRw⟩, by show x.l.length - (i + 1) < x.l.length - i; omega, kn_cons (by rfl) (kn_cons (by rfl) kn_nil), (by repeat (first | exact List.Sublist.refl _ | exact List.nil_sublist _ | refine List.Sublist.cons_cons _ ?_ | refine List.Sublist.cons _ ?_ | exact Sbp.refl | exact Sbp.nil | refine Sbp.cons (by repeat (first | exact Rem.head | apply Rem.tail)) ?_ | exact Sbp.app | refine Sbp.skip ?_ | exact List.sublist_append_left _ _ | exact List.sublist_append_right _ _))⟩
                    · have hb7p := of_decide_eq_false hb7
                      refine CS.exit ?_
                      refine thenC_x ?_
                      refine loopQ_x ?_
                      refine blockC_x ?_
                      refine blockC_n ?_
                      refine thenC_n ?_
                      refine CS.region ?_
                      first | (refine RS.q rfl (QO.add (by rfl) (by rfl) (by omega) (by omega)) ?_) | (refine RS.q rfl (QO.ibin (by rfl) (by rfl) trivial) ?_)
                      refine RS.q rfl (QO.move) ?_
                      refine RS.nil ?_
                      refine loopQ_n (by intro t ht; repeat (first | with_reducible exact rfl | exact frame_puts ht (frame_mix ht) _ rfl | (refine frame_put rfl ht ?_) | (refine frame_puts ht ?_ _ rfl) | exact frame_mix ht | (refine frame_mix2 rfl ht ?_) | exact rfl)) ?_
                      have hin : i = x.l.length := by omega
                      have htk : (lst d2 x.l.length).take i = (lst d2 x.l.length) := by rw [hin]; exact List.take_of_length_le (by rw [lst_len]; exact Nat.le_refl _)
                      rw [htk] at hrow
                      refine ⟨(j + 1, Ax ++ Bx, G ++ [((srtS (rs.map (·.r))).getD j [], (lst d2 x.l.length))], vi, Hi), ⟨by show j + 1 ≤ (srtS (rs.map (·.r))).length; omega, hpm, fun y hy => hleft y (by rcases List.mem_append.1 hy with h | h <;> simp [h]), take_key hG hjl, ?_, perm_key hall hxd, ?_⟩, by show (srtS (rs.map (·.r))).length - (j + 1) < (srtS (rs.map (·.r))).length - j; omega, kn_cons (by rfl) (kn_cons (by rfl) kn_nil), (by repeat (first | exact List.Sublist.refl _ | exact List.nil_sublist _ | refine List.Sublist.cons_cons _ ?_ | refine List.Sublist.cons _ ?_ | exact Sbp.refl | exact Sbp.nil | refine Sbp.cons (by repeat (first | exact Rem.head | apply Rem.tail)) ?_ | exact Sbp.app | refine Sbp.skip ?_ | exact List.sublist_append_left _ _ | exact List.sublist_append_right _ _))⟩
                      · intro g hg
                        rcases List.mem_append.1 hg with hg | hg
                        · exact hGo g hg
                        · rw [List.mem_singleton.1 hg]
                          exact ⟨fun p hp => by rw [← hxr]; exact hxown p (hxd.symm.subset hp), so_pairwise s2⟩
                      · show Row 91 3 vi (mrg ((G ++ [_]).flatMap (fun y : RG => y.2))).length (pls (mrg ((G ++ [_]).flatMap (fun y : RG => y.2)))) Hi
                        rw [show (G ++ [((srtS (rs.map (·.r))).getD j [], (lst d2 x.l.length))]).flatMap (·.2) = G.flatMap (·.2) ++ (lst d2 x.l.length) by simp [List.flatMap_append]]
                        exact hrow
                · have hb6p := of_decide_eq_false hb6
                  refine CS.exit ?_
                  refine thenC_x ?_
                  refine loopQ_x ?_
                  refine blockC_x ?_
                  refine thenC_n ?_
                  refine CS.seq ?_
                  refine CS.region ?_
                  refine RS.q rfl (QO.move) ?_
                  refine RS.q rfl (QO.assign) ?_
                  refine RS.q rfl (QO.assign) ?_
                  refine RS.nil ?_
                  refine thenC_n ?_
                  refine CS.ret ?_
                  refine retQ.mk (H' := Ho) (.inr rfl) (RVs.tmp (by rfl) (RVs.tmp (by rfl) RVs.nil)) (by repeat (first | exact List.Sublist.refl _ | exact List.nil_sublist _ | refine List.Sublist.cons_cons _ ?_ | refine List.Sublist.cons _ ?_ | exact Sbp.refl | exact Sbp.nil | refine Sbp.cons (by repeat (first | exact Rem.head | apply Rem.tail)) ?_ | exact Sbp.app | refine Sbp.skip ?_ | exact List.sublist_append_left _ _ | exact List.sublist_append_right _ _)) ?_
                  have hje : j = (srtS (rs.map (·.r))).length := by omega
                  rw [hje, List.drop_length] at hpk9
                  have hr0 : rl = [] := by
                    have h9 := hpk9.length_eq
                    simpa using h9
                  rw [hr0, List.flatMap_nil, List.append_nil] at hall
                  exact SrcR.good (srcE_ok hE (by omega) (by omega)) hrow ⟨_, hall, groups_sorted (by rw [hG, hje, List.take_length]; exact hks) hGo, rfl⟩

end Go.Proofs.YtapcgokcfmklbaaDoor

namespace Go.Proofs.YtapcgokcfmklbaaDoor
open Go Go.Proofs Go.RowKit

theorem fo91_0 : fldOff Tryd.prog 91 0 = some (0, 9) := by kernel_rfl
theorem ok110 : callOK Tryd.prog 110 = true := by kernel_rfl
theorem ok111 : callOK Tryd.prog 111 = true := by kernel_rfl
theorem ok112 : callOK Tryd.prog 112 = true := by kernel_rfl
theorem ok113 : callOK Tryd.prog 113 = true := by kernel_rfl
theorem ok146 : callOK Tryd.prog 146 = true := by kernel_rfl

set_option maxRecDepth 100000 in
theorem insertion0 (A : Option Addr) (c : Nat) (fc : FuncId) (W : World) : Fn_ Tryd.prog 187 #[.slice A 0 c, iv 0, iv 0, .func (.func fc) #[] #[]] W (fun v H => H = []) := by
  refine Fn_.intro Tryd.func187 rfl rfl (by rfl) ?_
  refine CS.seq ?_
  refine CS.region ?_
  refine RS.q rfl (QO.move) ?_
  first | (refine RS.q rfl (QO.add (by rfl) (by rfl) (by omega) (by omega)) ?_) | (refine RS.q rfl (QO.ibin (by rfl) (by rfl) trivial) ?_)
  refine RS.q rfl (QO.assign) ?_
  refine RS.nil ?_
  refine thenC_n ?_
  refine CS.block ?_
  refine CS.loop (X := Unit) (8 :: 9 :: 12 :: 13 :: 14 :: 15 :: 16 :: 17 :: 18 :: 19 :: 20 :: 21 :: 22 :: 23 :: 24 :: 25 :: 26 :: 27 :: 28 :: 29 :: 30 :: 31 :: 32 :: 33 :: 34 :: 35 :: 36 :: 37 :: 38 :: 39 :: 40 :: 41 :: 42 :: 43 :: 44 :: 45 :: 46 :: 47 :: 48 :: 49 :: 50 :: 51 :: 52 :: []) (fun z => [(8, iv 1)]) (fun z => []) (fun z => True) (fun z => 0) () trivial ?_ ?_ ?_
  · exact (by repeat (first | exact kn_nil | refine kn_cons (by rfl) ?_))
  · exact (by repeat (first | exact List.Sublist.refl _ | exact List.nil_sublist _ | refine List.Sublist.cons_cons _ ?_ | refine List.Sublist.cons _ ?_ | exact Sbp.refl | exact Sbp.nil | refine Sbp.cons (by repeat (first | exact Rem.head | apply Rem.tail)) ?_ | exact Sbp.app | refine Sbp.skip ?_ | exact List.sublist_append_left _ _ | exact List.sublist_append_right _ _))
  · intro z gj1 hz
    refine CS.seq ?_
    refine CS.seq ?_
    refine CS.region ?_
    refine RS.q rfl (QO.move) ?_
    refine RS.q rfl (QO.move) ?_
    refine RS.q rfl (QO.lss (by rfl) (by rfl)) ?_
    refine RS.nil ?_
    refine thenC_n ?_
    refine CS.condF (by rfl) rfl ?_
    refine CS.exit ?_
    refine thenC_x ?_
    refine loopQ_x ?_
    refine blockC_x ?_
    refine retQ.mk (H' := []) (.inl rfl) RVs.nil (List.nil_sublist _) ?_
    rfl

set_option maxRecDepth 100000 in
theorem stable0 (A : Option Addr) (c : Nat) (fc : FuncId) (W : World) : Fn_ Tryd.prog 143 #[.slice A 0 c, iv 0, .func (.func fc) #[] #[]] W (fun v H => H = []) := by
  refine Fn_.intro Tryd.func143 rfl rfl (by rfl) ?_
  refine CS.seq ?_
  refine CS.region ?_
  refine RS.q rfl (QO.assign) ?_
  refine RS.nil ?_
  refine thenC_n ?_
  refine CS.seq ?_
  refine CS.region ?_
  refine RS.q rfl (QO.move) ?_
  refine RS.q rfl (QO.assign) ?_
  refine RS.q rfl (QO.assign) ?_
  refine RS.nil ?_
  refine thenC_n ?_
  refine CS.seq ?_
  refine CS.block ?_
  refine CS.loop (X := Unit) (7 :: 8 :: 11 :: 12 :: 13 :: 14 :: 15 :: 16 :: 17 :: 18 :: 19 :: 20 :: 21 :: 22 :: []) (fun z => [(7, iv 0), (8, iv 20)]) (fun z => []) (fun z => True) (fun z => 0) () trivial ?_ ?_ ?_
  · exact (by repeat (first | exact kn_nil | refine kn_cons (by rfl) ?_))
  · exact (by repeat (first | exact List.Sublist.refl _ | exact List.nil_sublist _ | refine List.Sublist.cons_cons _ ?_ | refine List.Sublist.cons _ ?_ | exact Sbp.refl | exact Sbp.nil | refine Sbp.cons (by repeat (first | exact Rem.head | apply Rem.tail)) ?_ | exact Sbp.app | refine Sbp.skip ?_ | exact List.sublist_append_left _ _ | exact List.sublist_append_right _ _))
  · intro z gj2 hz
    refine CS.seq ?_
    refine CS.seq ?_
    refine CS.region ?_
    refine RS.q rfl (QO.move) ?_
    refine RS.q rfl (QO.move) ?_
    refine RS.q rfl (QO.leq (by rfl) (by rfl)) ?_
    refine RS.nil ?_
    refine thenC_n ?_
    refine CS.condF (by rfl) rfl ?_
    refine CS.exit ?_
    refine thenC_x ?_
    refine loopQ_x ?_
    refine blockC_x ?_
    refine thenC_n ?_
    refine CS.seq ?_
    refine CS.region ?_
    refine RS.q rfl (QO.move) ?_
    refine RS.q rfl (QO.move) ?_
    refine RS.q rfl (QO.move) ?_
    refine RS.q rfl (QO.move) ?_
    refine RS.call rfl (by rfl) ok187 (by rfl) (fun w ho => insertion0 A c fc _) ?_
    rintro _ _ rfl
    refine RS.nil ?_
    refine thenC_n ?_
    refine CS.block ?_
    refine CS.loop (X := Unit) (6 :: 7 :: 8 :: 9 :: 28 :: 29 :: 30 :: 31 :: 32 :: 33 :: 34 :: 35 :: 36 :: 37 :: 38 :: 39 :: 40 :: 41 :: 42 :: 43 :: 44 :: 45 :: 46 :: 47 :: 48 :: 49 :: 50 :: 51 :: 52 :: 53 :: 54 :: 55 :: 56 :: 57 :: 58 :: 59 :: 60 :: 61 :: 62 :: []) (fun z => [(6, iv 20)]) (fun z => []) (fun z => True) (fun z => 0) () trivial ?_ ?_ ?_
    · exact (by repeat (first | exact kn_nil | refine kn_cons (by rfl) ?_))
    · exact (by repeat (first | exact List.Sublist.refl _ | exact List.nil_sublist _ | refine List.Sublist.cons_cons _ ?_ | refine List.Sublist.cons _ ?_ | exact Sbp.refl | exact Sbp.nil | refine Sbp.cons (by repeat (first | exact Rem.head | apply Rem.tail)) ?_ | exact Sbp.app | refine Sbp.skip ?_ | exact List.sublist_append_left _ _ | exact List.sublist_append_right _ _))
    · intro z gj7 hz
      refine CS.seq ?_
      refine CS.seq ?_
      refine CS.region ?_
      refine RS.q rfl (QO.move) ?_
      refine RS.q rfl (QO.move) ?_
      refine RS.q rfl (QO.lss (by rfl) (by rfl)) ?_
      refine RS.nil ?_
      refine thenC_n ?_
      refine CS.condF (by rfl) rfl ?_
      refine CS.exit ?_
      refine thenC_x ?_
      refine loopQ_x ?_
      refine blockC_x ?_
      refine retQ.mk (H' := []) (.inl rfl) RVs.nil (List.nil_sublist _) ?_
      rfl

set_option maxRecDepth 100000 in
theorem sortStable0 (A : Option Addr) (c : Nat) (fc : FuncId) (W : World) : Fn_ Tryd.prog 107 #[.slice A 0 c, .func (.func fc) #[] #[]] W (fun v H => H = []) := by
  refine Fn_.intro Tryd.func107 rfl rfl (by rfl) ?_
  refine CS.region ?_
  refine RS.q rfl (QO.move) ?_
  refine RS.q rfl (QO.move) ?_
  refine RS.q rfl (QO.lenS Tryd.underlying86 (by rfl)) ?_
  refine RS.q rfl (QO.move) ?_
  refine RS.call rfl (by rfl) ok143 (by rfl) (fun w ho => stable0 A c fc _) ?_
  rintro _ _ rfl
  refine RS.nil ?_
  refine retQ.mk (H' := []) (.inl rfl) RVs.nil (List.nil_sublist _) ?_
  rfl

set_option maxRecDepth 100000 in
theorem isNaNI (x : Int) (W : World) : Fn_ Tryd.prog 146 #[iv x] W (fun v H => v = .bool false ∧ H = []) := by
  refine Fn_.intro Tryd.func146 rfl rfl (by rfl) ?_
  refine CS.seq ?_
  refine CS.region ?_
  refine RS.q rfl (QO.assign) ?_
  refine RS.nil ?_
  refine thenC_n ?_
  refine CS.seq ?_
  refine CS.region ?_
  refine RS.q rfl (QO.move) ?_
  refine RS.q rfl (QO.move) ?_
  refine RS.q rfl (QO.neq (by rfl) (by rfl)) ?_
  refine RS.q rfl (QO.assign) ?_
  refine RS.nil ?_
  refine thenC_n ?_
  refine CS.ret ?_
  refine retQ.mk (H' := []) (.inr rfl) (RVs.tmp (by rfl) RVs.nil) (List.nil_sublist _) ?_
  exact ⟨congrArg Value.bool (by simp), rfl⟩

set_option maxRecDepth 100000 in
theorem cmpInt (x y : Int) (W : World) : Fn_ Tryd.prog 113 #[iv x, iv y] W (fun v H => v = iv (if x < y then -1 else if y < x then 1 else 0) ∧ H = []) := by
  refine Fn_.intro Tryd.func113 rfl rfl (by rfl) ?_
  refine CS.seq ?_
  refine CS.region ?_
  refine RS.q rfl (QO.assign) ?_
  refine RS.nil ?_
  refine thenC_n ?_
  refine CS.seq ?_
  refine CS.region ?_
  refine RS.q rfl (QO.move) ?_
  refine RS.call rfl (by rfl) ok146 (by rfl) (fun w ho => isNaNI _ _) ?_
  rintro _ _ ⟨rfl, rfl⟩
  refine RS.q rfl (QO.assign) ?_
  refine RS.nil ?_
  refine thenC_n ?_
  refine CS.seq ?_
  refine CS.region ?_
  refine RS.q rfl (QO.move) ?_
  refine RS.call rfl (by rfl) ok146 (by rfl) (fun w ho => isNaNI _ _) ?_
  rintro _ _ ⟨rfl, rfl⟩
  refine RS.q rfl (QO.assign) ?_
  refine RS.nil ?_
  refine thenC_n ?_
  refine CS.seq ?_
  refine CS.seq ?_
  refine CS.region ?_
  refine RS.q rfl (QO.move) ?_
  refine RS.nil ?_
  refine thenC_n ?_
  refine CS.condF (by rfl) rfl ?_
  refine CS.skip ?_
  refine thenC_n ?_
  refine CS.seq ?_
  refine CS.seq ?_
  refine CS.region ?_
  refine RS.q rfl (QO.move) ?_
  refine RS.nil ?_
  refine thenC_n ?_
  refine CS.condF (by rfl) rfl ?_
  refine CS.skip ?_
  refine thenC_n ?_
  refine CS.seq ?_
  refine CS.seq ?_
  refine CS.region ?_
  refine RS.q rfl (QO.move) ?_
  refine RS.q rfl (QO.move) ?_
  refine RS.q rfl (QO.lss (by rfl) (by rfl)) ?_
  refine RS.nil ?_
  refine thenC_n ?_
  refine CS.cond (by rfl) (fun hb0 => ?_) (fun hb0 => ?_)
  · have hb0p := of_decide_eq_true hb0
    refine CS.seq ?_
    refine CS.region ?_
    refine RS.q rfl (QO.assign) ?_
    refine RS.nil ?_
    refine thenC_n ?_
    refine CS.ret ?_
    refine thenC_r ?_
    refine retQ.mk (H' := []) (.inr rfl) (RVs.tmp (by rfl) RVs.nil) (List.nil_sublist _) ?_
    exact ⟨congrArg iv (if_pos (by omega)).symm, rfl⟩
  · have hb0p := of_decide_eq_false hb0
    refine CS.skip ?_
    refine thenC_n ?_
    refine CS.seq ?_
    refine CS.seq ?_
    refine CS.region ?_
    refine RS.q rfl (QO.move) ?_
    refine RS.q rfl (QO.move) ?_
    refine RS.q rfl (QO.gtr (by rfl) (by rfl)) ?_
    refine RS.nil ?_
    refine thenC_n ?_
    refine CS.cond (by rfl) (fun hb1 => ?_) (fun hb1 => ?_)
    · have hb1p := of_decide_eq_true hb1
      refine CS.seq ?_
      refine CS.region ?_
      refine RS.q rfl (QO.assign) ?_
      refine RS.nil ?_
      refine thenC_n ?_
      refine CS.ret ?_
      refine thenC_r ?_
      refine retQ.mk (H' := []) (.inr rfl) (RVs.tmp (by rfl) RVs.nil) (List.nil_sublist _) ?_
      exact ⟨congrArg iv ((if_neg (by omega)).trans (if_pos (by omega))).symm, rfl⟩
    · have hb1p := of_decide_eq_false hb1
      refine CS.skip ?_
      refine thenC_n ?_
      refine CS.seq ?_
      refine CS.region ?_
      refine RS.q rfl (QO.assign) ?_
      refine RS.nil ?_
      refine thenC_n ?_
      refine CS.ret ?_
      refine retQ.mk (H' := []) (.inr rfl) (RVs.tmp (by rfl) RVs.nil) (List.nil_sublist _) ?_
      exact ⟨congrArg iv ((if_neg (by omega)).trans (if_neg (by omega))).symm, rfl⟩

theorem or_at {x y : Int} {k : Nat} (h : k < 2) : ∃ q, [iv x, iv y][k]? = some (iv q) ∧ (k = 0 ∧ q = x ∨ k = 1 ∧ q = y) := by
  match k, h with
  | 0, _ => exact ⟨x, rfl, .inl ⟨rfl, rfl⟩⟩
  | 1, _ => exact ⟨y, rfl, .inr ⟨rfl, rfl⟩⟩
theorem or_z1 {x y q : Int} {k : Nat} (h1 : 0 < k → x = 0) (hk : k = 0 ∧ q = x ∨ k = 1 ∧ q = y) (hq : q = 0) : x = 0 := by
  rcases hk with ⟨_, rfl⟩ | ⟨rfl, _⟩
  · exact hq
  · exact h1 (by omega)
theorem or_z2 {x y q : Int} {k : Nat} (hk : k = 0 ∧ q = x ∨ k = 1 ∧ q = y) (hq : q = 0) (h : 1 < k + 1) : y = 0 := by
  rcases hk with ⟨rfl, _⟩ | ⟨_, rfl⟩
  · omega
  · exact hq
theorem or_res {x y q : Int} {k : Nat} (h1 : 0 < k → x = 0) (hk : k = 0 ∧ q = x ∨ k = 1 ∧ q = y) (hq : q ≠ 0) : q = if x ≠ 0 then x else y := by
  rcases hk with ⟨_, rfl⟩ | ⟨rfl, rfl⟩
  · rw [if_pos hq]
  · rw [if_neg (by rw [h1 (by omega)]; decide)]
theorem or_end {x y : Int} (h1 : x = 0) (h2 : y = 0) : 0 = if x ≠ 0 then x else y := by rw [if_neg (by rw [h1]; decide), h2]
/-- by reel, then by place: its sign -/
theorem cmpP_lt (x y : Pl) : decide ((if Lib.compareBytes x.reel y.reel ≠ 0 then Lib.compareBytes x.reel y.reel else (if x.i < y.i then -1 else if y.i < x.i then 1 else 0)) < 0) = ltP x y := by
  unfold ltP
  apply decide_eq_decide.2
  have h1 := cmpB_lt x.reel y.reel
  have h2 := cmpB_eq x.reel y.reel
  by_cases h : Lib.compareBytes x.reel y.reel = 0
  · rw [if_neg (by rw [h]; decide)]
    have e := h2.1 h
    rw [e]
    constructor
    · intro hh
      refine .inr ⟨rfl, ?_⟩
      by_cases h3 : x.i < y.i
      · exact h3
      · rw [if_neg h3] at hh
        split at hh <;> omega
    · rintro (hh | ⟨_, hh⟩)
      · exact absurd hh (List.lt_irrefl _)
      · rw [if_pos hh]; decide
  · rw [if_pos h, h1]
    exact ⟨.inl, fun hh => hh.resolve_right fun h3 => h (h2.2 h3.1)⟩

set_option maxRecDepth 100000 in
theorem orInt (x y : Int) (g : Nat) (W : World) (hc : ∀ j v, [iv x, iv y][j]? = some v → W.cell? ⟨g, j, none⟩ = some v) : Fn_ Tryd.prog 111 #[.slice (some ⟨g, 0, none⟩) 2 2] W (fun v H => v = iv (if x ≠ 0 then x else y) ∧ H = []) := by
  refine Fn_.intro Tryd.func111 rfl rfl (by rfl) ?_
  refine CS.seq ?_
  refine CS.region ?_
  refine RS.q rfl (QO.assign) ?_
  refine RS.nil ?_
  refine thenC_n ?_
  refine CS.seq ?_
  refine CS.region ?_
  refine RS.q rfl (QO.assign) ?_
  refine RS.nil ?_
  refine thenC_n ?_
  refine CS.seq ?_
  refine CS.seq ?_
  refine CS.region ?_
  refine RS.q rfl (QO.move) ?_
  refine RS.q rfl (QO.lenS Tryd.underlying22 (by rfl)) ?_
  refine RS.q rfl (QO.move) ?_
  refine RS.nil ?_
  refine thenC_n ?_
  refine CS.block ?_
  refine CS.loop (X := Nat) [2, 5, 8, 9, 10, 11, 12, 13, 14, 15, 16] (fun k => [(8, iv (k : Int))]) (fun k => []) (fun k => k ≤ 2 ∧ (0 < k → x = 0) ∧ (1 < k → y = 0)) (fun k => 2 - k) 0 ⟨Nat.zero_le _, fun h => absurd h (Nat.lt_irrefl _), fun h => absurd h (by omega)⟩ ?_ ?_ ?_
  · exact (by repeat (first | exact kn_nil | refine kn_cons (by rfl) ?_))
  · exact (by repeat (first | exact List.Sublist.refl _ | exact List.nil_sublist _ | refine List.Sublist.cons_cons _ ?_ | refine List.Sublist.cons _ ?_ | exact Sbp.refl | exact Sbp.nil | refine Sbp.cons (by repeat (first | exact Rem.head | apply Rem.tail)) ?_ | exact Sbp.app | refine Sbp.skip ?_ | exact List.sublist_append_left _ _ | exact List.sublist_append_right _ _))
  · intro k gj3 hz
    obtain ⟨hk, h1, h2⟩ := hz
    refine CS.seq ?_
    refine CS.region ?_
    refine RS.q rfl (QO.lss (by rfl) (by rfl)) ?_
    refine RS.nil ?_
    refine thenC_n ?_
    refine CS.seq ?_
    refine CS.cond (by rfl) (fun hb0 => ?_) (fun hb0 => ?_)
    · have hb0p := of_decide_eq_true hb0
      refine CS.skip ?_
      refine thenC_n ?_
      refine CS.seq ?_
      refine CS.block ?_
      refine CS.seq ?_
      refine CS.region ?_
      have hx1 : ∃ q, [iv x, iv y][k]? = some (iv q) ∧ (k = 0 ∧ q = x ∨ k = 1 ∧ q = y) := or_at (by omega)
      obtain ⟨q, hq1, hk2⟩ := hx1
      first | (refine RS.q rfl (QO.idx0 Tryd.underlying22 ty3 (by rfl) (by rfl) (by rfl) (by omega)) ?_) | (refine RS.q rfl (QO.idxn Tryd.underlying22 ty3 (by rfl) (by rfl) (by rfl) (by omega)) ?_) | (refine RS.q rfl (QO.idx1 Tryd.underlying22 ty3 (by rfl) (by rfl) (by omega) (by omega)) ?_)
      refine RS.q rfl (QO.loadO ty3 (by rfl) (hc _ _ hq1)) ?_
      refine RS.q rfl (QO.assign) ?_
      refine RS.nil ?_
      refine thenC_n ?_
      refine CS.seq ?_
      refine CS.region ?_
      refine RS.q rfl (QO.move) ?_
      refine RS.q rfl (QO.move) ?_
      refine RS.q rfl (QO.neq (by rfl) (by rfl)) ?_
      refine RS.nil ?_
      refine thenC_n ?_
      refine CS.cond (by rfl) (fun hb1 => ?_) (fun hb1 => ?_)
      · have hb1p := bne_iff_ne.1 hb1
        refine CS.seq ?_
        refine CS.region ?_
        refine RS.q rfl (QO.move) ?_
        refine RS.q rfl (QO.assign) ?_
        refine RS.nil ?_
        refine thenC_n ?_
        refine CS.ret ?_
        refine blockC_r ?_
        refine thenC_r ?_
        refine loopQ_r ?_
        refine blockC_r ?_
        refine thenC_r ?_
        refine retQ.mk (H' := []) (.inr rfl) (RVs.tmp (by rfl) RVs.nil) (List.nil_sublist _) ?_
        exact ⟨congrArg iv (or_res h1 hk2 hb1p), rfl⟩
      · have hb1p := of_bne_false hb1
        refine CS.skip ?_
        refine blockC_n ?_
        refine thenC_n ?_
        refine CS.region ?_
        first | (refine RS.q rfl (QO.add (by rfl) (by rfl) (by omega) (by omega)) ?_) | (refine RS.q rfl (QO.ibin (by rfl) (by rfl) trivial) ?_)
        refine RS.q rfl (QO.move) ?_
        refine RS.nil ?_
        refine loopQ_n (by intro t ht; repeat (first | with_reducible exact rfl | exact frame_puts ht (frame_mix ht) _ rfl | (refine frame_put rfl ht ?_) | (refine frame_puts ht ?_ _ rfl) | exact frame_mix ht | (refine frame_mix2 rfl ht ?_) | exact rfl)) ?_
        exact ⟨k + 1, ⟨by omega, fun _ => or_z1 h1 hk2 (of_bne_false hb1), fun h => or_z2 hk2 (of_bne_false hb1) h⟩, by omega, (by repeat (first | exact kn_nil | refine kn_cons (by rfl) ?_)), (by repeat (first | exact List.Sublist.refl _ | exact List.nil_sublist _ | refine List.Sublist.cons_cons _ ?_ | refine List.Sublist.cons _ ?_ | exact Sbp.refl | exact Sbp.nil | refine Sbp.cons (by repeat (first | exact Rem.head | apply Rem.tail)) ?_ | exact Sbp.app | refine Sbp.skip ?_ | exact List.sublist_append_left _ _ | exact List.sublist_append_right _ _))⟩
    · have hb0p := of_decide_eq_false hb0
      refine CS.exit ?_
      refine thenC_x ?_
      refine loopQ_x ?_
      refine blockC_x ?_
      refine thenC_n ?_
      refine CS.seq ?_
      refine CS.region ?_
      refine RS.q rfl (QO.move) ?_
      refine RS.q rfl (QO.assign) ?_
      refine RS.nil ?_
      refine thenC_n ?_
      refine CS.ret ?_
      refine retQ.mk (H' := []) (.inr rfl) (RVs.tmp (by rfl) RVs.nil) (List.nil_sublist _) ?_
      exact ⟨congrArg iv (or_end (h1 (by omega)) (h2 (by omega))), rfl⟩

set_option maxRecDepth 100000 in
theorem cmpP1 (x y : Pl) (W : World) (hx : PlP x) (hy : PlP y) : Fn_ Tryd.prog 110 #[.agg (plc x).toArray, .agg (plc y).toArray] W (fun v H => ∃ r : Int, v = iv r ∧ decide (r < 0) = ltP x y ∧ H = []) := by
  refine Fn_.intro Tryd.func110 rfl rfl (by rfl) ?_
  refine CS.seq ?_
  refine CS.region ?_
  refine RS.box rfl (by rfl) (by rfl) ?_
  intro g2
  refine RS.box rfl (by rfl) (by rfl) ?_
  intro g3
  refine RS.q rfl (QO.assign) ?_
  refine RS.nil ?_
  refine thenC_n ?_
  refine CS.seq ?_
  refine CS.drawS (HS := ⟨g3, 91, [sv y.reel, iv y.i, iv y.o]⟩ :: ⟨g2, 91, [sv x.reel, iv x.i, iv x.o]⟩ :: []) 13 (by repeat (first | exact List.Sublist.refl _ | exact List.nil_sublist _ | refine List.Sublist.cons_cons _ ?_ | refine List.Sublist.cons _ ?_ | exact Sbp.refl | exact Sbp.nil | refine Sbp.cons (by repeat (first | exact Rem.head | apply Rem.tail)) ?_ | exact Sbp.app | refine Sbp.skip ?_ | exact List.sublist_append_left _ _ | exact List.sublist_append_right _ _)) rfl (by kernel_rfl) (by kernel_rfl) ?_
  refine RT.take (i := 0) rfl (by kernel_rfl) rfl (QO.fieldAddr fo91_0 (by rfl)) ?_
  first | (refine RT.take (i := 1) rfl (by kernel_rfl) rfl (QO.load ty9 (by rfl) (by repeat (first | exact List.Mem.head _ | refine List.Mem.tail _ ?_)) (by rfl)) ?_) | (refine RT.take (i := 1) rfl (by kernel_rfl) rfl (QO.loadO ty9 (by rfl) (by assumption)) ?_) | (refine RT.take (i := 1) rfl (by kernel_rfl) rfl (QO.load ty9 (by rfl) (by repeat (first | exact List.Mem.head _ | refine List.Mem.tail _ ?_)) (by assumption)) ?_)
  refine RT.take (i := 2) rfl (by kernel_rfl) rfl (QO.fieldAddr fo91_0 (by rfl)) ?_
  first | (refine RT.take (i := 3) rfl (by kernel_rfl) rfl (QO.load ty9 (by rfl) (by repeat (first | exact List.Mem.head _ | refine List.Mem.tail _ ?_)) (by rfl)) ?_) | (refine RT.take (i := 3) rfl (by kernel_rfl) rfl (QO.loadO ty9 (by rfl) (by assumption)) ?_) | (refine RT.take (i := 3) rfl (by kernel_rfl) rfl (QO.load ty9 (by rfl) (by repeat (first | exact List.Mem.head _ | refine List.Mem.tail _ ?_)) (by assumption)) ?_)
  refine RT.take (i := 5) rfl (by kernel_rfl) rfl (QO.fieldAddr fo91_1 (by rfl)) ?_
  first | (refine RT.take (i := 6) rfl (by kernel_rfl) rfl (QO.load ty3 (by rfl) (by repeat (first | exact List.Mem.head _ | refine List.Mem.tail _ ?_)) (by rfl)) ?_) | (refine RT.take (i := 6) rfl (by kernel_rfl) rfl (QO.loadO ty3 (by rfl) (by assumption)) ?_) | (refine RT.take (i := 6) rfl (by kernel_rfl) rfl (QO.load ty3 (by rfl) (by repeat (first | exact List.Mem.head _ | refine List.Mem.tail _ ?_)) (by assumption)) ?_)
  refine RT.take (i := 7) rfl (by kernel_rfl) rfl (QO.fieldAddr fo91_1 (by rfl)) ?_
  first | (refine RT.take (i := 8) rfl (by kernel_rfl) rfl (QO.load ty3 (by rfl) (by repeat (first | exact List.Mem.head _ | refine List.Mem.tail _ ?_)) (by rfl)) ?_) | (refine RT.take (i := 8) rfl (by kernel_rfl) rfl (QO.loadO ty3 (by rfl) (by assumption)) ?_) | (refine RT.take (i := 8) rfl (by kernel_rfl) rfl (QO.load ty3 (by rfl) (by repeat (first | exact List.Mem.head _ | refine List.Mem.tail _ ?_)) (by assumption)) ?_)
  refine RT.one (i := 4) (by kernel_rfl) rfl rfl ?_
  refine RS.call rfl (by rfl) ok112 (by rfl) (fun w ho => cmpS x.reel y.reel _) ?_
  rintro _ _ ⟨rfl, rfl⟩
  refine RS.nil ⟨(by repeat (first | exact List.Sublist.refl _ | exact List.nil_sublist _ | refine List.Sublist.cons_cons _ ?_ | refine List.Sublist.cons _ ?_ | exact Sbp.refl | exact Sbp.nil | refine Sbp.cons (by repeat (first | exact Rem.head | apply Rem.tail)) ?_ | exact Sbp.app | refine Sbp.skip ?_ | exact List.sublist_append_left _ _ | exact List.sublist_append_right _ _)), ?_⟩
  refine RT.one (i := 9) (by kernel_rfl) rfl rfl ?_
  refine RS.call rfl (by rfl) ok113 (by rfl) (fun w ho => cmpInt x.i y.i _) ?_
  rintro _ _ ⟨rfl, rfl⟩
  refine RS.nil ⟨(by repeat (first | exact List.Sublist.refl _ | exact List.nil_sublist _ | refine List.Sublist.cons_cons _ ?_ | refine List.Sublist.cons _ ?_ | exact Sbp.refl | exact Sbp.nil | refine Sbp.cons (by repeat (first | exact Rem.head | apply Rem.tail)) ?_ | exact Sbp.app | refine Sbp.skip ?_ | exact List.sublist_append_left _ _ | exact List.sublist_append_right _ _)), ?_⟩
  refine RT.one (i := 10) (by kernel_rfl) rfl rfl ?_
  refine RS.buildSlice rfl Tryd.underlying22 ty3 (by decide) (by decide) (by rfl) (by rfl) ?_
  intro g15
  refine RS.nil ⟨(by repeat (first | exact List.Sublist.refl _ | exact List.nil_sublist _ | refine List.Sublist.cons_cons _ ?_ | refine List.Sublist.cons _ ?_ | exact Sbp.refl | exact Sbp.nil | refine Sbp.cons (by repeat (first | exact Rem.head | apply Rem.tail)) ?_ | exact Sbp.app | refine Sbp.skip ?_ | exact List.sublist_append_left _ _ | exact List.sublist_append_right _ _)), ?_⟩
  refine RT.one (i := 11) (by kernel_rfl) rfl rfl ?_
  refine RS.call rfl (by rfl) ok111 (by rfl) (fun w ho => orInt _ _ g15 _ (fun j v hj => ((ho.blk ⟨g15, 3, [iv (Lib.compareBytes x.reel y.reel), iv (if x.i < y.i then -1 else if y.i < x.i then 1 else 0)]⟩ (by repeat (first | exact List.Mem.head _ | refine List.Mem.tail _ ?_))).2.cell j).trans hj)) ?_
  rintro _ _ ⟨rfl, rfl⟩
  refine RS.nil ⟨(by repeat (first | exact List.Sublist.refl _ | exact List.nil_sublist _ | refine List.Sublist.cons_cons _ ?_ | refine List.Sublist.cons _ ?_ | exact Sbp.refl | exact Sbp.nil | refine Sbp.cons (by repeat (first | exact Rem.head | apply Rem.tail)) ?_ | exact Sbp.app | refine Sbp.skip ?_ | exact List.sublist_append_left _ _ | exact List.sublist_append_right _ _)), ?_⟩
  refine RT.take (i := 12) rfl (by kernel_rfl) rfl (QO.assign) ?_
  refine RT.done (by kernel_rfl) ?_
  refine thenC_n ?_
  refine CS.ret ?_
  refine retQ.mk (H' := []) (.inr rfl) (RVs.tmp (by rfl) RVs.nil) (List.nil_sublist _) ?_
  exact ⟨_, rfl, cmpP_lt x y, rfl⟩

set_option maxHeartbeats 16000000 in
set_option maxRecDepth 100000 in
theorem rsources (t : List UInt8) (rate : Int) (A : Option Addr) (c : Nat) (l : List Ev) (hd : Int) (W : World) (ht : t.length ≤ maxLen) (hA : ES W A l) (hr : ∀ e ∈ l, e.reel.length ≤ maxLen) (hm : l.length ≤ maxLen) (hE : edE t rate l = 0) : Fn_ Tryd.prog 48 #[.agg #[sv t, iv rate, .slice A l.length c], iv hd] W (fun v H => SrcR t rate l hd v H) := by
  refine Fn_.intro Tryd.func48 rfl rfl (by rfl) ?_
  refine CS.seq ?_
  refine CS.region ?_
  refine RS.box rfl (by rfl) (by rfl) ?_
  intro g2
  refine RS.q rfl (QO.assign) ?_
  refine RS.q rfl (QO.assign) ?_
  refine RS.nil ?_
  refine thenC_n ?_
  refine CS.seq ?_
  refine CS.seq ?_
  refine CS.region ?_
  refine RS.q rfl (QO.move) ?_
  refine RS.q rfl (QO.lss (by rfl) (by rfl)) ?_
  refine RS.q rfl (QO.move) ?_
  refine RS.split (dj := 16) (by rfl) (fun hb0 => ?_) (fun hb0 => ?_)
  · have hb0p := of_decide_eq_true hb0
    refine RS.off (dj := 16) rfl (.inl (congrArg Value.bool hb0)) (fun _ => rfl) rfl ?_
    refine RS.off (dj := 16) rfl (.inl (congrArg Value.bool hb0)) (fun _ => rfl) rfl ?_
    refine RS.q rfl (QO.pickT (by rfl) hb0 (by rfl)) ?_
    refine RS.nil ?_
    refine thenC_n ?_
    refine CS.condT (by rfl) rfl ?_
    refine CS.seq ?_
    refine CS.region ?_
    refine RS.q rfl (QO.assign) ?_
    refine RS.q rfl (QO.assign) ?_
    refine RS.nil ?_
    refine thenC_n ?_
    refine CS.ret ?_
    refine thenC_r ?_
    refine retQ.mk (H' := []) (.inr rfl) (RVs.tmp (by rfl) (RVs.tmp (by rfl) RVs.nil)) (List.nil_sublist _) ?_
    exact SrcR.bad (srcE_rng hE (by omega)) (by decide)
  · have hb0p := of_decide_eq_false hb0
    refine RS.on (dj := 16) rfl (congrArg Value.bool hb0) ?_
    refine RS.q rfl (QO.move) ?_
    refine RS.on (dj := 16) rfl (congrArg Value.bool hb0) ?_
    refine RS.q rfl (QO.gtr (by rfl) (by rfl)) ?_
    refine RS.q rfl (QO.pickF (by rfl) hb0 (by rfl)) ?_
    refine RS.nil ?_
    refine thenC_n ?_
    refine CS.cond (by rfl) (fun hb1 => ?_) (fun hb1 => ?_)
    · have hb1p := of_decide_eq_true hb1
      refine CS.seq ?_
      refine CS.region ?_
      refine RS.q rfl (QO.assign) ?_
      refine RS.q rfl (QO.assign) ?_
      refine RS.nil ?_
      refine thenC_n ?_
      refine CS.ret ?_
      refine thenC_r ?_
      refine retQ.mk (H' := []) (.inr rfl) (RVs.tmp (by rfl) (RVs.tmp (by rfl) RVs.nil)) (List.nil_sublist _) ?_
      exact SrcR.bad (srcE_rng hE (by omega)) (by decide)
    · have hb1p := of_decide_eq_false hb1
      refine CS.skip ?_
      refine thenC_n ?_
      refine CS.seq ?_
      refine CS.region ?_
      refine RS.q rfl (QO.assign) ?_
      refine RS.nil ?_
      refine thenC_n ?_
      refine CS.seq ?_
      refine CS.seq ?_
      refine CS.region ?_
      refine RS.q rfl (QO.fieldAddr fo52_2 (by rfl)) ?_
      first | (refine RS.q rfl (QO.load ty50 (by rfl) (by repeat (first | exact List.Mem.head _ | refine List.Mem.tail _ ?_)) (by rfl)) ?_) | (refine RS.q rfl (QO.loadO ty50 (by rfl) (by assumption)) ?_) | (refine RS.q rfl (QO.load ty50 (by rfl) (by repeat (first | exact List.Mem.head _ | refine List.Mem.tail _ ?_)) (by assumption)) ?_)
      refine RS.q rfl (QO.lenS Tryd.underlying50 (by rfl)) ?_
      have hl5 := (edE_ok hE).2.2.1
      refine RS.q rfl (QO.move) ?_
      refine RS.nil ?_
      refine thenC_n ?_
      refine CS.block ?_
      refine CS.loop (X := Nat × Value × HL) (6 :: 7 :: 8 :: 9 :: 23 :: 24 :: 25 :: 26 :: 27 :: 28 :: 29 :: 30 :: 31 :: 32 :: 33 :: 34 :: 35 :: 36 :: 37 :: 38 :: 39 :: 40 :: 41 :: 42 :: 43 :: 44 :: 45 :: 46 :: 47 :: 48 :: 49 :: 50 :: 51 :: 52 :: 53 :: 54 :: 55 :: 56 :: 57 :: 58 :: 59 :: 60 :: 61 :: []) (fun z => [(23, iv (z.1 : Int)), (6, z.2.1)]) (fun z => ⟨g2, 52, [sv t, iv rate, .slice A l.length c]⟩ :: z.2.2) (fun z => z.1 ≤ l.length ∧ Row 91 3 z.2.1 (pullsL l hd z.1).length (pls (pullsL l hd z.1)) z.2.2) (fun z => l.length - z.1) (0, .slice none 0 0, []) ⟨Nat.zero_le _, .nil⟩ ?_ ?_ ?_
      · exact kn_cons (by rfl) (kn_cons (by rfl) kn_nil)
      · exact (by repeat (first | exact List.Sublist.refl _ | exact List.nil_sublist _ | refine List.Sublist.cons_cons _ ?_ | refine List.Sublist.cons _ ?_ | exact Sbp.refl | exact Sbp.nil | refine Sbp.cons (by repeat (first | exact Rem.head | apply Rem.tail)) ?_ | exact Sbp.app | refine Sbp.skip ?_ | exact List.sublist_append_left _ _ | exact List.sublist_append_right _ _))
      · intro z gj5 hz
        obtain ⟨k, vr, Hr⟩ := z
        obtain ⟨hk, hrow⟩ := hz
        simp only at hk hrow
        show CS _ _ _ _ _ (puts (mix _ _ _) [(23, iv (k : Int)), (6, vr)]) (⟨g2, 52, [sv t, iv rate, .slice A l.length c]⟩ :: Hr)
        refine CS.seq ?_
        refine CS.region ?_
        refine RS.q rfl (QO.lss (by rfl) (by rfl)) ?_
        refine RS.nil ?_
        refine thenC_n ?_
        refine CS.seq ?_
        refine CS.cond (by rfl) (fun hb2 => ?_) (fun hb2 => ?_)
        · have hb2p := of_decide_eq_true hb2
          refine CS.skip ?_
          refine thenC_n ?_
          refine CS.seq ?_
          refine CS.block ?_
          refine CS.seq ?_
          refine CS.region ?_
          have hx1 := hA.at_ (show k < l.length by omega)
          obtain ⟨bA, oA, hA0, hcell⟩ := hx1
          subst hA0
          have hx2 : ∃ e, l.getD k default = e := ⟨_, rfl⟩
          obtain ⟨e, he⟩ := hx2
          rw [he] at hcell
          have hoe := ev_ok hE (show k < l.length by omega)
          rw [he] at hoe
          have hre : e.reel.length ≤ maxLen := by rw [← he]; exact hr _ (ev_mem (by omega))
          have hnx := nxD_bd hE k
          have hpl := pullsL_len l hd k
          refine RS.q rfl (QO.move) ?_
          refine RS.q rfl (QO.idx Tryd.underlying50 ty134 (by rfl) (by rfl) (by omega) (by omega)) ?_
          refine RS.q rfl (QO.loadOA ty134 (vs := evc e) (by rfl) hcell (by rfl)) ?_
          refine RS.alloc rfl ty134 ?_
          intro g8
          refine RS.q rfl (QO.assign) ?_
          first | refine RS.storeB ty134 (by rfl) (by rfl) (by rfl) (by rfl) (by rfl) (by repeat (first | exact Upd.head | apply Upd.tail | exact Upd.app _ Upd.head)) (by rfl) ?_ | refine RS.storeP ty134 (by rfl) (by rfl) (by rfl) (by rfl) (by rfl) (by repeat (first | exact Upd.head | apply Upd.tail | exact Upd.app _ Upd.head)) (by rfl) ?_
          refine RS.nil ?_
          refine thenC_n ?_
          refine CS.seq ?_
          refine CS.region ?_
          refine RS.q rfl (QO.fieldAddr fo134_0 (by rfl)) ?_
          first | (refine RS.q rfl (QO.load ty9 (by rfl) (by repeat (first | exact List.Mem.head _ | refine List.Mem.tail _ ?_)) (by rfl)) ?_) | (refine RS.q rfl (QO.loadO ty9 (by rfl) (by assumption)) ?_) | (refine RS.q rfl (QO.load ty9 (by rfl) (by repeat (first | exact List.Mem.head _ | refine List.Mem.tail _ ?_)) (by assumption)) ?_)
          refine RS.q rfl (QO.fieldAddr fo134_3 (by rfl)) ?_
          first | (refine RS.q rfl (QO.load ty3 (by rfl) (by repeat (first | exact List.Mem.head _ | refine List.Mem.tail _ ?_)) (by rfl)) ?_) | (refine RS.q rfl (QO.loadO ty3 (by rfl) (by assumption)) ?_) | (refine RS.q rfl (QO.load ty3 (by rfl) (by repeat (first | exact List.Mem.head _ | refine List.Mem.tail _ ?_)) (by assumption)) ?_)
          refine RS.q rfl (QO.move) ?_
          first | (refine RS.q rfl (QO.sub (by rfl) (by rfl) (by omega) (by omega)) ?_) | (refine RS.q rfl (QO.ibin (by rfl) (by rfl) trivial) ?_)
          refine RS.q rfl (QO.max2 (by rfl) (by rfl)) ?_
          refine RS.q rfl (QO.fieldAddr fo134_4 (by rfl)) ?_
          first | (refine RS.q rfl (QO.load ty3 (by rfl) (by repeat (first | exact List.Mem.head _ | refine List.Mem.tail _ ?_)) (by rfl)) ?_) | (refine RS.q rfl (QO.loadO ty3 (by rfl) (by assumption)) ?_) | (refine RS.q rfl (QO.load ty3 (by rfl) (by repeat (first | exact List.Mem.head _ | refine List.Mem.tail _ ?_)) (by assumption)) ?_)
          refine RS.q rfl (QO.move) ?_
          first | (refine RS.q rfl (QO.add (by rfl) (by rfl) (by omega) (by omega)) ?_) | (refine RS.q rfl (QO.ibin (by rfl) (by rfl) trivial) ?_)
          refine RS.q rfl (QO.build ty91 pl91 (by rfl)) ?_
          refine RS.alloc rfl ty91 ?_
          intro g9
          first | refine RS.storeB ty91 (by rfl) (by rfl) (by rfl) (by rfl) (by rfl) (by repeat (first | exact Upd.head | apply Upd.tail | exact Upd.app _ Upd.head)) (by rfl) ?_ | refine RS.storeP ty91 (by rfl) (by rfl) (by rfl) (by rfl) (by rfl) (by repeat (first | exact Upd.head | apply Upd.tail | exact Upd.app _ Upd.head)) (by rfl) ?_
          refine RS.nil ?_
          refine thenC_n ?_
          refine CS.cut (X := Int) (40 :: 41 :: 42 :: 43 :: 44 :: 45 :: 46 :: 47 :: 48 :: 49 :: 50 :: 51 :: 52 :: 53 :: 54 :: 55 :: 56 :: []) (fun o9 => []) (fun o9 => ⟨g9, 91, [sv e.reel, iv (max (e.inn - hd) 0), iv (o9)]⟩ :: ⟨g8, 134, [sv e.reel, iv e.kind, iv e.len, iv e.inn, iv e.out, iv e.at_]⟩ :: ⟨g2, 52, [sv t, iv rate, .slice (some ⟨bA, oA, none⟩) l.length c]⟩ :: Hr) (fun o9 => o9 = e.out + hd + nxD l k) ?_ ?_
          · refine CS.seq ?_
            refine CS.region ?_
            refine RS.q rfl (QO.move) ?_
            first | (refine RS.q rfl (QO.add (by rfl) (by rfl) (by omega) (by omega)) ?_) | (refine RS.q rfl (QO.ibin (by rfl) (by rfl) trivial) ?_)
            refine RS.q rfl (QO.fieldAddr fo52_2 (by rfl)) ?_
            first | (refine RS.q rfl (QO.load ty50 (by rfl) (by repeat (first | exact List.Mem.head _ | refine List.Mem.tail _ ?_)) (by rfl)) ?_) | (refine RS.q rfl (QO.loadO ty50 (by rfl) (by assumption)) ?_) | (refine RS.q rfl (QO.load ty50 (by rfl) (by repeat (first | exact List.Mem.head _ | refine List.Mem.tail _ ?_)) (by assumption)) ?_)
            refine RS.q rfl (QO.lenS Tryd.underlying50 (by rfl)) ?_
            refine RS.q rfl (QO.lss (by rfl) (by rfl)) ?_
            refine RS.nil ?_
            refine thenC_n ?_
            refine CS.cond (by rfl) (fun hb3 => ?_) (fun hb3 => ?_)
            · have hb3p := of_decide_eq_true hb3
              refine CS.draw 11 rfl (by kernel_rfl) (by kernel_rfl) ?_
              have hx3 := hA.at_ (show k + 1 < l.length by omega)
              obtain ⟨b3, o3, hA3, hcell3⟩ := hx3
              cases hA3
              have hx4 : ∃ e2, l.getD (k + 1) default = e2 := ⟨_, rfl⟩
              obtain ⟨e2, he2⟩ := hx4
              rw [he2] at hcell3
              have hc75 := hcell3 2 _ rfl
              rw [addr_add] at hc75
              have hoe2 := ev_ok hE (show k + 1 < l.length by omega)
              rw [he2] at hoe2
              refine RT.take (i := 0) rfl (by kernel_rfl) rfl (QO.fieldAddr fo91_2 (by rfl)) ?_
              first | (refine RT.take (i := 1) rfl (by kernel_rfl) rfl (QO.load ty3 (by rfl) (by repeat (first | exact List.Mem.head _ | refine List.Mem.tail _ ?_)) (by rfl)) ?_) | (refine RT.take (i := 1) rfl (by kernel_rfl) rfl (QO.loadO ty3 (by rfl) (by assumption)) ?_) | (refine RT.take (i := 1) rfl (by kernel_rfl) rfl (QO.load ty3 (by rfl) (by repeat (first | exact List.Mem.head _ | refine List.Mem.tail _ ?_)) (by assumption)) ?_)
              refine RT.take (i := 2) rfl (by kernel_rfl) rfl (QO.fieldAddr fo52_2 (by rfl)) ?_
              first | (refine RT.take (i := 3) rfl (by kernel_rfl) rfl (QO.load ty50 (by rfl) (by repeat (first | exact List.Mem.head _ | refine List.Mem.tail _ ?_)) (by rfl)) ?_) | (refine RT.take (i := 3) rfl (by kernel_rfl) rfl (QO.loadO ty50 (by rfl) (by assumption)) ?_) | (refine RT.take (i := 3) rfl (by kernel_rfl) rfl (QO.load ty50 (by rfl) (by repeat (first | exact List.Mem.head _ | refine List.Mem.tail _ ?_)) (by assumption)) ?_)
              refine RT.take (i := 4) rfl (by kernel_rfl) rfl (QO.move) ?_
              first | (refine RT.takev (i := 5) rfl (by kernel_rfl) rfl (QO.add (by rfl) (by rfl) (by omega) (by omega)) (congrArg iv (show (k : Int) + 1 = ((k + 1 : Nat) : Int) by omega)) ?_) | (refine RT.takev (i := 5) rfl (by kernel_rfl) rfl (QO.ibin (by rfl) (by rfl) trivial) (congrArg iv (show (k : Int) + 1 = ((k + 1 : Nat) : Int) by omega)) ?_)
              refine RT.take (i := 6) rfl (by kernel_rfl) rfl (QO.idx Tryd.underlying50 ty134 (by rfl) (by rfl) (by omega) (by omega)) ?_
              refine RT.take (i := 7) rfl (by kernel_rfl) rfl (QO.fieldAddr fo134_2 (by rfl)) ?_
              refine RT.take (i := 8) rfl (by kernel_rfl) rfl (QO.loadO ty3 (by rfl) hc75) ?_
              first | (refine RT.take (i := 9) rfl (by kernel_rfl) rfl (QO.add (by rfl) (by rfl) (by omega) (by omega)) ?_) | (refine RT.take (i := 9) rfl (by kernel_rfl) rfl (QO.ibin (by rfl) (by rfl) trivial) ?_)
              refine RT.take (i := 10) rfl (by kernel_rfl) rfl (QO.fieldAddr fo91_2 (by rfl)) ?_
              refine RT.tail (i := 11) (by kernel_rfl) rfl rfl ?_
              refine RS.store1 ty3 rfl (by rfl) (by rfl) (by rfl) (by repeat (first | exact Upd.head | apply Upd.tail | exact Upd.app _ Upd.head)) (by first | (simp; done) | (simp; omega) | omega) ?_
              refine RS.nil ?_
              refine RT.done (by kernel_rfl) ?_
              refine cutQ_n (by intro t ht; repeat (first | with_reducible exact rfl | exact frame_puts ht (frame_mix ht) _ rfl | (refine frame_put rfl ht ?_) | (refine frame_puts ht ?_ _ rfl) | exact frame_mix ht | (refine frame_mix2 rfl ht ?_) | exact rfl)) ?_
              have hnq : e.out + hd + e2.len = e.out + hd + nxD l k := by rw [nxD_R hE (by omega), he2]
              exact ⟨_, hnq, (by repeat (first | exact kn_nil | refine kn_cons (by rfl) ?_)), (by repeat (first | exact List.Sublist.refl _ | exact List.nil_sublist _ | refine List.Sublist.cons_cons _ ?_ | refine List.Sublist.cons _ ?_ | exact Sbp.refl | exact Sbp.nil | refine Sbp.cons (by repeat (first | exact Rem.head | apply Rem.tail)) ?_ | exact Sbp.app | refine Sbp.skip ?_ | exact List.sublist_append_left _ _ | exact List.sublist_append_right _ _))⟩
            · have hb3p := of_decide_eq_false hb3
              refine CS.skip ?_
              refine cutQ_n (by intro t ht; repeat (first | with_reducible exact rfl | exact frame_puts ht (frame_mix ht) _ rfl | (refine frame_put rfl ht ?_) | (refine frame_puts ht ?_ _ rfl) | exact frame_mix ht | (refine frame_mix2 rfl ht ?_) | exact rfl)) ?_
              have hnq : e.out + hd = e.out + hd + nxD l k := by rw [nxD_N (by omega), Int.add_zero]
              exact ⟨_, hnq, (by repeat (first | exact kn_nil | refine kn_cons (by rfl) ?_)), (by repeat (first | exact List.Sublist.refl _ | exact List.nil_sublist _ | refine List.Sublist.cons_cons _ ?_ | refine List.Sublist.cons _ ?_ | exact Sbp.refl | exact Sbp.nil | refine Sbp.cons (by repeat (first | exact Rem.head | apply Rem.tail)) ?_ | exact Sbp.app | refine Sbp.skip ?_ | exact List.sublist_append_left _ _ | exact List.sublist_append_right _ _))⟩
          · intro o9 gj hz
            refine CS.region ?_
            refine RS.q rfl (QO.move) ?_
            first | (refine RS.q rfl (QO.loadB ty91 (by rfl) (by repeat (first | exact List.Mem.head _ | refine List.Mem.tail _ ?_)) (by rfl)) ?_) | (refine RS.q rfl (QO.loadA ty91 (by rfl) (by repeat (first | exact List.Mem.head _ | refine List.Mem.tail _ ?_)) (by rfl) (by rfl)) ?_) | (refine RS.q rfl (QO.loadOA ty91 (by rfl) (by assumption) (by rfl)) ?_)
            refine RS.buildSlice rfl Tryd.underlying86 ty91 (by decide) (by decide) (by rfl) (by rfl) ?_
            intro g59
            refine RS.appendRow rfl Tryd.underlying86 ty91 (by rfl) hrow (by repeat (first | exact Suf.base | exact Suf.any _ _ | apply Suf.cons)) (by rfl) (Src.blk (by repeat (first | exact List.Mem.head _ | refine List.Mem.tail _ ?_))) (by rfl) (by rfl) (by decide) (by decide) (by unfold maxLen; omega) (by omega) ?_
            intro v60 H60 hrow60
            refine RS.q rfl (QO.assign) ?_
            refine RS.nil ?_
            refine blockC_n ?_
            refine thenC_n ?_
            refine CS.region ?_
            first | (refine RS.q rfl (QO.add (by rfl) (by rfl) (by omega) (by omega)) ?_) | (refine RS.q rfl (QO.ibin (by rfl) (by rfl) trivial) ?_)
            have hl5 := (edE_ok hE).2.2.1
            refine RS.q rfl (QO.move) ?_
            refine RS.nil ?_
            refine loopQ_n (by intro t ht; repeat (first | with_reducible exact rfl | exact frame_puts ht (frame_mix ht) _ rfl | (refine frame_put rfl ht ?_) | (refine frame_puts ht ?_ _ rfl) | exact frame_mix ht | (refine frame_mix2 rfl ht ?_) | exact rfl)) ?_
            have hMe : pullsL l hd (k + 1) = pullsL l hd k ++ [(⟨e.reel, max (e.inn - hd) 0, o9⟩ : Pl)] := by rw [pullsL_succ]; unfold pullP; rw [he, hz]
            have hRw : Row 91 3 v60 (pullsL l hd (k + 1)).length (pls (pullsL l hd (k + 1))) H60 := row_app hMe hrow60
            exact ⟨(k + 1, v60, H60), ⟨by show k + 1 ≤ l.length; omega, hRw⟩, by show l.length - (k + 1) < l.length - k; omega, kn_cons (by rfl) (kn_cons (by rfl) kn_nil), (by repeat (first | exact List.Sublist.refl _ | exact List.nil_sublist _ | refine List.Sublist.cons_cons _ ?_ | refine List.Sublist.cons _ ?_ | exact Sbp.refl | exact Sbp.nil | refine Sbp.cons (by repeat (first | exact Rem.head | apply Rem.tail)) ?_ | exact Sbp.app | refine Sbp.skip ?_ | exact List.sublist_append_left _ _ | exact List.sublist_append_right _ _))⟩
        · have hb2p := of_decide_eq_false hb2
          refine CS.exit ?_
          refine thenC_x ?_
          refine loopQ_x ?_
          refine blockC_x ?_
          refine thenC_n ?_
          refine CS.seq ?_
          by_cases hsp12 : l.length = 0
          · refine CS.region ?_
            have hx5 := hrow.slice
            obtain ⟨Ar, cr, hvr, _, _⟩ := hx5
            rw [pullsL_len, show k = 0 by omega] at hvr
            subst hvr
            have hpe : pullsL l hd l.length = [] := by rw [hsp12]; rfl
            refine RS.q rfl (QO.move) ?_
            refine RS.call rfl (by rfl) ok107 (by rfl) (fun w ho => sortStable0 Ar cr 110 _) ?_
            rintro _ _ rfl
            refine RS.nil ?_
            refine thenC_n ?_
            refine CS.seq ?_
            refine CS.region ?_
            refine RS.q rfl (QO.assign) ?_
            refine RS.nil ?_
            refine thenC_n ?_
            refine CS.seq ?_
            refine CS.seq ?_
            refine CS.region ?_
            refine RS.q rfl (QO.move) ?_
            refine RS.q rfl (QO.lenS Tryd.underlying86 (by rfl)) ?_
            refine RS.q rfl (QO.move) ?_
            refine RS.nil ?_
            refine thenC_n ?_
            refine CS.block ?_
            refine CS.loop (X := Unit) (10 :: 12 :: 13 :: 66 :: 67 :: 68 :: 69 :: 70 :: 71 :: 72 :: 73 :: 74 :: 75 :: 76 :: 77 :: 78 :: 79 :: 80 :: 81 :: 82 :: 83 :: 84 :: 85 :: 86 :: 87 :: 88 :: 89 :: 90 :: 91 :: 92 :: 93 :: 94 :: 95 :: 96 :: 97 :: 98 :: 99 :: 100 :: 101 :: 102 :: 103 :: 104 :: 105 :: 106 :: 107 :: 108 :: 109 :: 110 :: 111 :: 112 :: 113 :: 114 :: []) (fun z => [(66, iv 0), (10, .slice none 0 0)]) (fun z => []) (fun z => True) (fun z => 0) () trivial ?_ ?_ ?_
            · exact (by repeat (first | exact kn_nil | refine kn_cons (by rfl) ?_))
            · exact (by repeat (first | exact List.Sublist.refl _ | exact List.nil_sublist _ | refine List.Sublist.cons_cons _ ?_ | refine List.Sublist.cons _ ?_ | exact Sbp.refl | exact Sbp.nil | refine Sbp.cons (by repeat (first | exact Rem.head | apply Rem.tail)) ?_ | exact Sbp.app | refine Sbp.skip ?_ | exact List.sublist_append_left _ _ | exact List.sublist_append_right _ _))
            · intro z gj15 hz
              refine CS.seq ?_
              refine CS.region ?_
              refine RS.q rfl (QO.lss (by rfl) (by rfl)) ?_
              refine RS.nil ?_
              refine thenC_n ?_
              refine CS.seq ?_
              refine CS.condF (by rfl) rfl ?_
              refine CS.exit ?_
              refine thenC_x ?_
              refine loopQ_x ?_
              refine blockC_x ?_
              refine thenC_n ?_
              refine CS.seq ?_
              refine CS.region ?_
              refine RS.q rfl (QO.move) ?_
              refine RS.q rfl (QO.assign) ?_
              refine RS.q rfl (QO.assign) ?_
              refine RS.nil ?_
              refine thenC_n ?_
              refine CS.ret ?_
              refine retQ.mk (H' := []) (.inr rfl) (RVs.tmp (by rfl) (RVs.tmp (by rfl) RVs.nil)) (List.nil_sublist _) ?_
              exact SrcR.good (m := []) (srcE_ok hE (by omega) (by omega)) .nil ⟨[], (by rw [hpe]), .nil, rfl⟩
          · refine CS.region ?_
            have hkl : k = l.length := by omega
            rw [hkl] at hrow
            have hx5 := hrow.some (by rw [pullsL_len]; omega)
            obtain ⟨gp, cp, jp, hvr, hHr, hrc1, hrc2, hrc3⟩ := hx5
            have hHr2 : Hr = [⟨gp, 91, fl (fun i => (pullsL l hd l.length).getD i default) l.length jp⟩] := by unfold fl; rw [lst_pulls]; exact hHr
            rw [pullsL_len] at hvr hrc1
            subst hvr
            subst hHr2
            have hPall := pulls_P (hd := hd) hE (by omega) (by omega) hr (Nat.le_refl l.length)
            have hPx := pulls_Px hPall
            clear hrow hHr
            refine RS.q rfl (QO.move) ?_
            refine RS.callH (⟨gp, 91, fl (fun i => (pullsL l hd l.length).getD i default) l.length jp⟩ :: ⟨g2, 52, [sv t, iv rate, .slice A l.length c]⟩ :: []) rfl (by rfl) ok107 (by rfl) (by repeat (first | exact List.Sublist.refl _ | exact List.nil_sublist _ | refine List.Sublist.cons_cons _ ?_ | refine List.Sublist.cons _ ?_ | exact Sbp.refl | exact Sbp.nil | refine Sbp.cons (by repeat (first | exact Rem.head | apply Rem.tail)) ?_ | exact Sbp.app | refine Sbp.skip ?_ | exact List.sublist_append_left _ _ | exact List.sublist_append_right _ _)) (fun w ho => sortStable_ gp l.length cp jp (⟨g2, 52, [sv t, iv rate, .slice A l.length c]⟩ :: []) _ 110 (by omega) ltP ordP ok110 (fun wd Hd _ x y hx hy => cmpP1 x y wd hx hy) _ hPx) ?_
            rintro _ _ ⟨d2, rfl, m2, s2⟩
            have hLp : (lst d2 l.length).Perm (pullsL l hd l.length) := by have h9 := m2.2.2; rw [lst_pulls] at h9; exact h9
            refine RS.nil ?_
            refine thenC_n ?_
            refine CS.seq ?_
            refine CS.region ?_
            refine RS.q rfl (QO.assign) ?_
            refine RS.nil ?_
            refine thenC_n ?_
            refine CS.seq ?_
            refine CS.seq ?_
            refine CS.region ?_
            refine RS.q rfl (QO.move) ?_
            refine RS.q rfl (QO.lenS Tryd.underlying86 (by rfl)) ?_
            refine RS.q rfl (QO.move) ?_
            refine RS.nil ?_
            refine thenC_n ?_
            refine CS.block ?_
            refine CS.loop (X := Nat × Value × HL) (10 :: 12 :: 13 :: 66 :: 67 :: 68 :: 69 :: 70 :: 71 :: 72 :: 73 :: 74 :: 75 :: 76 :: 77 :: 78 :: 79 :: 80 :: 81 :: 82 :: 83 :: 84 :: 85 :: 86 :: 87 :: 88 :: 89 :: 90 :: 91 :: 92 :: 93 :: 94 :: 95 :: 96 :: 97 :: 98 :: 99 :: 100 :: 101 :: 102 :: 103 :: 104 :: 105 :: 106 :: 107 :: 108 :: 109 :: 110 :: 111 :: 112 :: 113 :: 114 :: []) (fun z => [(66, iv (z.1 : Int)), (10, z.2.1)]) (fun z => ⟨gp, 91, fl d2 l.length jp⟩ :: ⟨g2, 52, [sv t, iv rate, .slice A l.length c]⟩ :: z.2.2) (fun z => z.1 ≤ l.length ∧ Row 91 3 z.2.1 (mrg ((lst d2 l.length).take z.1)).length (pls (mrg ((lst d2 l.length).take z.1))) z.2.2) (fun z => l.length - z.1) (0, .slice none 0 0, []) ⟨Nat.zero_le _, .nil⟩ ?_ ?_ ?_
            · exact kn_cons (by rfl) (kn_cons (by rfl) kn_nil)
            · exact (by repeat (first | exact List.Sublist.refl _ | exact List.nil_sublist _ | refine List.Sublist.cons_cons _ ?_ | refine List.Sublist.cons _ ?_ | exact Sbp.refl | exact Sbp.nil | refine Sbp.cons (by repeat (first | exact Rem.head | apply Rem.tail)) ?_ | exact Sbp.app | refine Sbp.skip ?_ | exact List.sublist_append_left _ _ | exact List.sublist_append_right _ _))
            · intro z gj15 hz
              obtain ⟨j, vi, Hi⟩ := z
              obtain ⟨hj, hrow⟩ := hz
              simp only at hj hrow
              show CS _ _ _ _ _ (puts (mix _ _ _) [(66, iv (j : Int)), (10, vi)]) (⟨gp, 91, fl d2 l.length jp⟩ :: ⟨g2, 52, [sv t, iv rate, .slice A l.length c]⟩ :: Hi)
              refine CS.seq ?_
              refine CS.region ?_
              refine RS.q rfl (QO.lss (by rfl) (by rfl)) ?_
              refine RS.nil ?_
              refine thenC_n ?_
              refine CS.seq ?_
              refine CS.cond (by rfl) (fun hb4 => ?_) (fun hb4 => ?_)
              · have hb4p := of_decide_eq_true hb4
                refine CS.skip ?_
                refine thenC_n ?_
                refine CS.seq ?_
                refine CS.block ?_
                refine CS.seq ?_
                refine CS.region ?_
                have hx6 : ∃ p, d2 j = p := ⟨_, rfl⟩
                obtain ⟨p, hp⟩ := hx6
                have hcell6 := fl_at (d := d2) (n := l.length) (i := j) (junk := jp) (by omega)
                rw [hp] at hcell6
                have hml : (mrg ((lst d2 l.length).take j)).length ≤ 600 := by
                  have h9 := mrg_len_le ((lst d2 l.length).take j)
                  rw [List.length_take, lst_len] at h9
                  omega
                refine RS.q rfl (QO.idx Tryd.underlying86 ty91 (by rfl) (by rfl) (by omega) (by omega)) ?_
                refine RS.q rfl (QO.loadA ty91 (by rfl) (by repeat (first | exact List.Mem.head _ | refine List.Mem.tail _ ?_)) hcell6 rfl) ?_
                refine RS.alloc rfl ty91 ?_
                intro g12
                first | refine RS.storeB ty91 (by rfl) (by rfl) (by rfl) (by rfl) (by rfl) (by repeat (first | exact Upd.head | apply Upd.tail | exact Upd.app _ Upd.head)) (by rfl) ?_ | refine RS.storeP ty91 (by rfl) (by rfl) (by rfl) (by rfl) (by rfl) (by repeat (first | exact Upd.head | apply Upd.tail | exact Upd.app _ Upd.head)) (by rfl) ?_
                refine RS.nil ?_
                refine thenC_n ?_
                refine CS.seq ?_
                refine CS.seq ?_
                by_cases hsp17 : j = 0
                · refine CS.region ?_
                  have hj0 := hsp17
                  have hx8 := hrow.slice
                  obtain ⟨Ao, co, hvo, hco1, hco2⟩ := hx8
                  rw [hj0, List.take_zero] at hvo
                  subst hvo
                  refine RS.q rfl (QO.move) ?_
                  refine RS.q rfl (QO.lenS Tryd.underlying86 (by rfl)) ?_
                  refine RS.q rfl (QO.assign) ?_
                  refine RS.nil ?_
                  refine thenC_n ?_
                  refine CS.seq ?_
                  refine CS.draw 24 rfl (by kernel_rfl) (by kernel_rfl) ?_
                  refine RT.take (i := 0) rfl (by kernel_rfl) rfl (QO.move) ?_
                  refine RT.take (i := 1) rfl (by kernel_rfl) rfl (QO.gtr (by rfl) (by rfl)) ?_
                  refine RT.take (i := 2) rfl (by kernel_rfl) rfl (QO.move) ?_
                  refine RT.takeOff (i := 3) (dj := 74) rfl rfl (.inl (congrArg Value.bool rfl)) (fun _ => rfl) (by kernel_rfl) rfl ?_
                  refine RT.takeOff (i := 4) (dj := 74) rfl rfl (.inl (congrArg Value.bool rfl)) (fun _ => rfl) (by kernel_rfl) rfl ?_
                  refine RT.takeOff (i := 5) (dj := 74) rfl rfl (.inl (congrArg Value.bool rfl)) (fun _ => rfl) (by kernel_rfl) rfl ?_
                  refine RT.takeOff (i := 6) (dj := 74) rfl rfl (.inl (congrArg Value.bool rfl)) (fun _ => rfl) (by kernel_rfl) rfl ?_
                  refine RT.takeOff (i := 7) (dj := 74) rfl rfl (.inl (congrArg Value.bool rfl)) (fun _ => rfl) (by kernel_rfl) rfl ?_
                  refine RT.takeOff (i := 8) (dj := 74) rfl rfl (.inl (congrArg Value.bool rfl)) (fun _ => rfl) (by kernel_rfl) rfl ?_
                  refine RT.takeOff (i := 9) (dj := 74) rfl rfl (.inl (congrArg Value.bool rfl)) (fun _ => rfl) (by kernel_rfl) rfl ?_
                  refine RT.takeOff (i := 10) (dj := 74) rfl rfl (.inl (congrArg Value.bool rfl)) (fun _ => rfl) (by kernel_rfl) rfl ?_
                  refine RT.takeOff (i := 11) (dj := 74) rfl rfl (.inl (congrArg Value.bool rfl)) (fun _ => rfl) (by kernel_rfl) rfl ?_
                  refine RT.take (i := 12) rfl (by kernel_rfl) rfl (QO.pickF (by rfl) rfl (by rfl)) ?_
                  refine RT.take (i := 13) rfl (by kernel_rfl) rfl (QO.move) ?_
                  refine RT.takeOff (i := 14) (dj := 85) rfl rfl (.inl (congrArg Value.bool rfl)) (fun _ => rfl) (by kernel_rfl) rfl ?_
                  refine RT.takeOff (i := 15) (dj := 85) rfl rfl (.inl (congrArg Value.bool rfl)) (fun _ => rfl) (by kernel_rfl) rfl ?_
                  refine RT.takeOff (i := 16) (dj := 85) rfl rfl (.inl (congrArg Value.bool rfl)) (fun _ => rfl) (by kernel_rfl) rfl ?_
                  refine RT.takeOff (i := 17) (dj := 85) rfl rfl (.inl (congrArg Value.bool rfl)) (fun _ => rfl) (by kernel_rfl) rfl ?_
                  refine RT.takeOff (i := 18) (dj := 85) rfl rfl (.inl (congrArg Value.bool rfl)) (fun _ => rfl) (by kernel_rfl) rfl ?_
                  refine RT.takeOff (i := 19) (dj := 85) rfl rfl (.inl (congrArg Value.bool rfl)) (fun _ => rfl) (by kernel_rfl) rfl ?_
                  refine RT.takeOff (i := 20) (dj := 85) rfl rfl (.inl (congrArg Value.bool rfl)) (fun _ => rfl) (by kernel_rfl) rfl ?_
                  refine RT.takeOff (i := 21) (dj := 85) rfl rfl (.inl (congrArg Value.bool rfl)) (fun _ => rfl) (by kernel_rfl) rfl ?_
                  refine RT.takeOff (i := 22) (dj := 85) rfl rfl (.inl (congrArg Value.bool rfl)) (fun _ => rfl) (by kernel_rfl) rfl ?_
                  refine RT.take (i := 23) rfl (by kernel_rfl) rfl (QO.pickF (by rfl) rfl (by rfl)) ?_
                  refine RT.done (by kernel_rfl) ?_
                  refine thenC_n ?_
                  refine CS.condF (by rfl) rfl ?_
                  refine CS.skip ?_
                  refine thenC_n ?_
                  refine CS.region ?_
                  refine RS.q rfl (QO.move) ?_
                  first | (refine RS.q rfl (QO.loadB ty91 (by rfl) (by repeat (first | exact List.Mem.head _ | refine List.Mem.tail _ ?_)) (by rfl)) ?_) | (refine RS.q rfl (QO.loadA ty91 (by rfl) (by repeat (first | exact List.Mem.head _ | refine List.Mem.tail _ ?_)) (by rfl) (by rfl)) ?_) | (refine RS.q rfl (QO.loadOA ty91 (by rfl) (by assumption) (by rfl)) ?_)
                  refine RS.buildSlice rfl Tryd.underlying86 ty91 (by decide) (by decide) (by rfl) (by rfl) ?_
                  intro g112
                  refine RS.appendRow rfl Tryd.underlying86 ty91 (by rfl) hrow (by repeat (first | exact Suf.base | exact Suf.any _ _ | apply Suf.cons)) (by rfl) (Src.blk (by repeat (first | exact List.Mem.head _ | refine List.Mem.tail _ ?_))) (by rfl) (by rfl) (by decide) (by decide) (by unfold maxLen; omega) (by omega) ?_
                  intro v113 H113 hrow113
                  refine RS.q rfl (QO.assign) ?_
                  refine RS.nil ?_
                  refine blockC_n ?_
                  refine thenC_n ?_
                  refine CS.region ?_
                  first | (refine RS.q rfl (QO.add (by rfl) (by rfl) (by omega) (by omega)) ?_) | (refine RS.q rfl (QO.ibin (by rfl) (by rfl) trivial) ?_)
                  refine RS.q rfl (QO.move) ?_
                  refine RS.nil ?_
                  refine loopQ_n (by intro t ht; repeat (first | with_reducible exact rfl | exact frame_puts ht (frame_mix ht) _ rfl | (refine frame_put rfl ht ?_) | (refine frame_puts ht ?_ _ rfl) | exact frame_mix ht | (refine frame_mix2 rfl ht ?_) | exact rfl)) ?_
                  have hnx3 : (mrg ((lst d2 l.length).take (j + 1))) = mstep (mrg ((lst d2 l.length).take j)) p := by rw [take_next (l := (lst d2 l.length)) (i := j) (p := p) (by rw [← hp]; exact lst_at d2 (by omega)), mrg_app]
                  have hMe : (mrg ((lst d2 l.length).take (j + 1))) = (mrg ((lst d2 l.length).take j)) ++ [p] := by rw [hnx3, hj0, List.take_zero]; rfl
                  have hRw : Row 91 3 v113 (mrg ((lst d2 l.length).take (j + 1))).length (pls (mrg ((lst d2 l.length).take (j + 1)))) H113 := row_app hMe hrow113
                  exact ⟨(j + 1, v113, H113), ⟨by show j + 1 ≤ l.length; omega, hRw⟩, by show l.length - (j + 1) < l.length - j; omega, kn_cons (by rfl) (kn_cons (by rfl) kn_nil), (by repeat (first | exact List.Sublist.refl _ | exact List.nil_sublist _ | refine List.Sublist.cons_cons _ ?_ | refine List.Sublist.cons _ ?_ | exact Sbp.refl | exact Sbp.nil | refine Sbp.cons (by repeat (first | exact Rem.head | apply Rem.tail)) ?_ | exact Sbp.app | refine Sbp.skip ?_ | exact List.sublist_append_left _ _ | exact List.sublist_append_right _ _))⟩
                · refine CS.region ?_
                  have hx8 := mrg_reel ((lst d2 l.length).take (j - 1)) (d2 (j - 1))
                  obtain ⟨M0, q, hM, hqr⟩ := hx8
                  rw [← take_next (l := (lst d2 l.length)) (i := j - 1) (p := d2 (j - 1)) (lst_at d2 (by omega)), Nat.sub_add_cancel (by omega)] at hM
                  rw [hM] at hrow hml
                  have hM0l : (M0 ++ [q]).length = M0.length + 1 := by rw [List.length_append]; rfl
                  have hx9 := hrow.some3 (by simp)
                  obtain ⟨go, cap2, junk2, hvo2, hHo2, hcp, hcm, _, hjl2⟩ := hx9
                  subst hvo2
                  subst hHo2
                  refine RS.q rfl (QO.move) ?_
                  refine RS.q rfl (QO.lenS Tryd.underlying86 (by rfl)) ?_
                  refine RS.q rfl (QO.assign) ?_
                  refine RS.nil ?_
                  refine thenC_n ?_
                  refine CS.seq ?_
                  refine CS.draw 24 rfl (by kernel_rfl) (by kernel_rfl) ?_
                  refine RT.take (i := 0) rfl (by kernel_rfl) rfl (QO.move) ?_
                  refine RT.take (i := 1) rfl (by kernel_rfl) rfl (QO.gtr (by rfl) (by rfl)) ?_
                  refine RT.take (i := 2) rfl (by kernel_rfl) rfl (QO.move) ?_
                  refine RT.takeOn (i := 3) (dj := 74) rfl rfl (congrArg Value.bool (decide_eq_true (by omega))) (by kernel_rfl) rfl (QO.move) ?_
                  refine RT.takeOn (i := 4) (dj := 74) rfl rfl (congrArg Value.bool (decide_eq_true (by omega))) (by kernel_rfl) rfl (QO.move) ?_
                  first | (refine RT.takeOnv (i := 5) (dj := 74) rfl rfl (congrArg Value.bool (decide_eq_true (by omega))) (by kernel_rfl) rfl (QO.sub (by rfl) (by rfl) (by omega) (by omega)) (congrArg iv (show (((M0 ++ [q]).length : Nat) : Int) - 1 = ((M0.length : Nat) : Int) by rw [List.length_append]; simp)) ?_) | (refine RT.takeOnv (i := 5) (dj := 74) rfl rfl (congrArg Value.bool (decide_eq_true (by omega))) (by kernel_rfl) rfl (QO.ibin (by rfl) (by rfl) trivial) (congrArg iv (show (((M0 ++ [q]).length : Nat) : Int) - 1 = ((M0.length : Nat) : Int) by rw [List.length_append]; simp)) ?_)
                  refine RT.takeOn (i := 6) (dj := 74) rfl rfl (congrArg Value.bool (decide_eq_true (by omega))) (by kernel_rfl) rfl (QO.idx Tryd.underlying86 ty91 (by rfl) (by rfl) (by omega) (by omega)) ?_
                  refine RT.takeOn (i := 7) (dj := 74) rfl rfl (congrArg Value.bool (decide_eq_true (by omega))) (by kernel_rfl) rfl (QO.fieldAddr fo91_0 (by rfl)) ?_
                  refine RT.takeOn (i := 8) (dj := 74) rfl rfl (congrArg Value.bool (decide_eq_true (by omega))) (by kernel_rfl) rfl (QO.load ty9 (by rfl) (by repeat (first | exact List.Mem.head _ | refine List.Mem.tail _ ?_ | exact List.mem_append_right _ (List.Mem.head _))) pls_last0) ?_
                  refine RT.takeOn (i := 9) (dj := 74) rfl rfl (congrArg Value.bool (decide_eq_true (by omega))) (by kernel_rfl) rfl (QO.fieldAddr fo91_0 (by rfl)) ?_
                  first | (refine RT.takeOn (i := 10) (dj := 74) rfl rfl (congrArg Value.bool (decide_eq_true (by omega))) (by kernel_rfl) rfl (QO.load ty9 (by rfl) (by repeat (first | exact List.Mem.head _ | refine List.Mem.tail _ ?_)) (by rfl)) ?_) | (refine RT.takeOn (i := 10) (dj := 74) rfl rfl (congrArg Value.bool (decide_eq_true (by omega))) (by kernel_rfl) rfl (QO.loadO ty9 (by rfl) (by assumption)) ?_) | (refine RT.takeOn (i := 10) (dj := 74) rfl rfl (congrArg Value.bool (decide_eq_true (by omega))) (by kernel_rfl) rfl (QO.load ty9 (by rfl) (by repeat (first | exact List.Mem.head _ | refine List.Mem.tail _ ?_)) (by assumption)) ?_)
                  refine RT.takeOn (i := 11) (dj := 74) rfl rfl (congrArg Value.bool (decide_eq_true (by omega))) (by kernel_rfl) rfl (QO.streq (by rfl) (by rfl)) ?_
                  refine RT.take (i := 12) rfl (by kernel_rfl) rfl (QO.pickT (by rfl) (decide_eq_true (by omega)) (by rfl)) ?_
                  refine RT.take (i := 13) rfl (by kernel_rfl) rfl (QO.move) ?_
                  refine RT.split (dj := 85) (by rfl) (fun hb5 => ?_) (fun hb5 => ?_)
                  · refine RT.takeOn (i := 14) (dj := 85) rfl rfl (congrArg Value.bool hb5) (by kernel_rfl) rfl (QO.fieldAddr fo91_1 (by rfl)) ?_
                    first | (refine RT.takeOn (i := 15) (dj := 85) rfl rfl (congrArg Value.bool hb5) (by kernel_rfl) rfl (QO.load ty3 (by rfl) (by repeat (first | exact List.Mem.head _ | refine List.Mem.tail _ ?_)) (by rfl)) ?_) | (refine RT.takeOn (i := 15) (dj := 85) rfl rfl (congrArg Value.bool hb5) (by kernel_rfl) rfl (QO.loadO ty3 (by rfl) (by assumption)) ?_) | (refine RT.takeOn (i := 15) (dj := 85) rfl rfl (congrArg Value.bool hb5) (by kernel_rfl) rfl (QO.load ty3 (by rfl) (by repeat (first | exact List.Mem.head _ | refine List.Mem.tail _ ?_)) (by assumption)) ?_)
                    refine RT.takeOn (i := 16) (dj := 85) rfl rfl (congrArg Value.bool hb5) (by kernel_rfl) rfl (QO.move) ?_
                    refine RT.takeOn (i := 17) (dj := 85) rfl rfl (congrArg Value.bool hb5) (by kernel_rfl) rfl (QO.move) ?_
                    first | (refine RT.takeOnv (i := 18) (dj := 85) rfl rfl (congrArg Value.bool hb5) (by kernel_rfl) rfl (QO.sub (by rfl) (by rfl) (by omega) (by omega)) (congrArg iv (show (((M0 ++ [q]).length : Nat) : Int) - 1 = ((M0.length : Nat) : Int) by rw [List.length_append]; simp)) ?_) | (refine RT.takeOnv (i := 18) (dj := 85) rfl rfl (congrArg Value.bool hb5) (by kernel_rfl) rfl (QO.ibin (by rfl) (by rfl) trivial) (congrArg iv (show (((M0 ++ [q]).length : Nat) : Int) - 1 = ((M0.length : Nat) : Int) by rw [List.length_append]; simp)) ?_)
                    refine RT.takeOn (i := 19) (dj := 85) rfl rfl (congrArg Value.bool hb5) (by kernel_rfl) rfl (QO.idx Tryd.underlying86 ty91 (by rfl) (by rfl) (by omega) (by omega)) ?_
                    refine RT.takeOn (i := 20) (dj := 85) rfl rfl (congrArg Value.bool hb5) (by kernel_rfl) rfl (QO.fieldAddr fo91_2 (by rfl)) ?_
                    refine RT.takeOn (i := 21) (dj := 85) rfl rfl (congrArg Value.bool hb5) (by kernel_rfl) rfl (QO.load ty3 (by rfl) (by repeat (first | exact List.Mem.head _ | refine List.Mem.tail _ ?_ | exact List.mem_append_right _ (List.Mem.head _))) pls_last) ?_
                    refine RT.takeOn (i := 22) (dj := 85) rfl rfl (congrArg Value.bool hb5) (by kernel_rfl) rfl (QO.leq (by rfl) (by rfl)) ?_
                    refine RT.take (i := 23) rfl (by kernel_rfl) rfl (QO.pickT (by rfl) hb5 (by rfl)) ?_
                    refine RT.done (by kernel_rfl) ?_
                    refine thenC_n ?_
                    refine CS.cond (by rfl) (fun hb6 => ?_) (fun hb6 => ?_)
                    · have hb6p := of_decide_eq_true hb6
                      refine CS.seq ?_
                      refine CS.draw2 [14] (HT := ⟨g12, 91, [sv p.reel, iv p.i, iv p.o]⟩ :: ⟨gp, 91, fl d2 l.length jp⟩ :: ⟨g2, 52, [sv t, iv rate, .slice A l.length c]⟩ :: []) (by repeat (first | exact List.Sublist.refl _ | exact List.nil_sublist _ | refine List.Sublist.cons_cons _ ?_ | refine List.Sublist.cons _ ?_ | exact Sbp.refl | exact Sbp.nil | refine Sbp.cons (by repeat (first | exact Rem.head | apply Rem.tail)) ?_ | exact Sbp.app | refine Sbp.skip ?_ | exact List.sublist_append_left _ _ | exact List.sublist_append_right _ _)) rfl (by kernel_rfl) ?_
                      refine RT2.take1 (i := 0) rfl (by kernel_rfl) rfl (QO.move) ?_
                      refine RT2.take1 (i := 1) rfl (by kernel_rfl) rfl (QO.move) ?_
                      first | (refine RT2.take1v (i := 2) rfl (by kernel_rfl) rfl (QO.sub (by rfl) (by rfl) (by omega) (by omega)) (congrArg iv (show (((M0 ++ [q]).length : Nat) : Int) - 1 = ((M0.length : Nat) : Int) by rw [List.length_append]; simp)) ?_) | (refine RT2.take1v (i := 2) rfl (by kernel_rfl) rfl (QO.ibin (by rfl) (by rfl) trivial) (congrArg iv (show (((M0 ++ [q]).length : Nat) : Int) - 1 = ((M0.length : Nat) : Int) by rw [List.length_append]; simp)) ?_)
                      refine RT2.take1 (i := 3) rfl (by kernel_rfl) rfl (QO.move) ?_
                      refine RT2.take1 (i := 4) rfl (by kernel_rfl) rfl (QO.move) ?_
                      first | (refine RT2.take1v (i := 5) rfl (by kernel_rfl) rfl (QO.sub (by rfl) (by rfl) (by omega) (by omega)) (congrArg iv (show (((M0 ++ [q]).length : Nat) : Int) - 1 = ((M0.length : Nat) : Int) by rw [List.length_append]; simp)) ?_) | (refine RT2.take1v (i := 5) rfl (by kernel_rfl) rfl (QO.ibin (by rfl) (by rfl) trivial) (congrArg iv (show (((M0 ++ [q]).length : Nat) : Int) - 1 = ((M0.length : Nat) : Int) by rw [List.length_append]; simp)) ?_)
                      refine RT2.take1 (i := 6) rfl (by kernel_rfl) rfl (QO.idx Tryd.underlying86 ty91 (by rfl) (by rfl) (by omega) (by omega)) ?_
                      refine RT2.take1 (i := 7) rfl (by kernel_rfl) rfl (QO.fieldAddr fo91_2 (by rfl)) ?_
                      refine RT2.take1 (i := 8) rfl (by kernel_rfl) rfl (QO.load ty3 (by rfl) (by repeat (first | exact List.Mem.head _ | refine List.Mem.tail _ ?_ | exact List.mem_append_right _ (List.Mem.head _))) pls_last) ?_
                      refine RT2.take1 (i := 9) rfl (by kernel_rfl) rfl (QO.fieldAddr fo91_2 (by rfl)) ?_
                      first | (refine RT2.take1 (i := 10) rfl (by kernel_rfl) rfl (QO.load ty3 (by rfl) (by repeat (first | exact List.Mem.head _ | refine List.Mem.tail _ ?_)) (by rfl)) ?_) | (refine RT2.take1 (i := 10) rfl (by kernel_rfl) rfl (QO.loadO ty3 (by rfl) (by assumption)) ?_) | (refine RT2.take1 (i := 10) rfl (by kernel_rfl) rfl (QO.load ty3 (by rfl) (by repeat (first | exact List.Mem.head _ | refine List.Mem.tail _ ?_)) (by assumption)) ?_)
                      refine RT2.take1 (i := 11) rfl (by kernel_rfl) rfl (QO.max2 (by rfl) (by rfl)) ?_
                      refine RT2.take2 (i := 12) rfl (by kernel_rfl) rfl (QO.idx Tryd.underlying86 ty91 (by rfl) (by rfl) (by omega) (by omega)) ?_
                      refine RT2.take1 (i := 13) rfl (by kernel_rfl) rfl (QO.fieldAddr fo91_2 (by rfl)) ?_
                      refine RT2.oneX (i := 14) (by kernel_rfl) rfl (by kernel_rfl) ?_
                      refine RS.store1e ty3 rfl (by rfl) (by rfl) (by rfl) pls_setlast (by repeat (first | exact Upd.head | apply Upd.tail | exact Upd.app _ Upd.head)) pls_fit ?_
                      refine RS.nil ⟨(by repeat (first | exact List.Sublist.refl _ | exact List.nil_sublist _ | refine List.Sublist.cons_cons _ ?_ | refine List.Sublist.cons _ ?_ | exact Sbp.refl | exact Sbp.nil | refine Sbp.cons (by repeat (first | exact Rem.head | apply Rem.tail)) ?_ | exact Sbp.app | refine Sbp.skip ?_ | exact List.sublist_append_left _ _ | exact List.sublist_append_right _ _)), ?_⟩
                      refine RT2.done (by kernel_rfl) ?_
                      refine thenC_n ?_
                      refine CS.exit ?_
                      refine thenC_x ?_
                      refine blockC_x ?_
                      refine thenC_n ?_
                      refine CS.region ?_
                      first | (refine RS.q rfl (QO.add (by rfl) (by rfl) (by omega) (by omega)) ?_) | (refine RS.q rfl (QO.ibin (by rfl) (by rfl) trivial) ?_)
                      refine RS.q rfl (QO.move) ?_
                      refine RS.nil ?_
                      refine loopQ_n (by intro t ht; repeat (first | with_reducible exact rfl | exact frame_puts ht (frame_mix ht) _ rfl | (refine frame_put rfl ht ?_) | (refine frame_puts ht ?_ _ rfl) | exact frame_mix ht | (refine frame_mix2 rfl ht ?_) | exact rfl)) ?_
                      have hnx3 : (mrg ((lst d2 l.length).take (j + 1))) = mstep (mrg ((lst d2 l.length).take j)) p := by rw [take_next (l := (lst d2 l.length)) (i := j) (p := p) (by rw [← hp]; exact lst_at d2 (by omega)), mrg_app]
                      have hMe : (mrg ((lst d2 l.length).take (j + 1))) = M0 ++ [⟨q.reel, q.i, max q.o p.o⟩] := by rw [hnx3, hM, mstep_last, if_pos ⟨eq_of_beq (by assumption), by omega⟩]
                      have hRw : Row 91 3 (.slice (some ⟨go, 0, none⟩) (M0 ++ [q]).length cap2) (mrg ((lst d2 l.length).take (j + 1))).length (pls (mrg ((lst d2 l.length).take (j + 1)))) [⟨go, 91, pls (M0 ++ [⟨q.reel, q.i, max q.o p.o⟩]) ++ junk2⟩] := row_put hMe (row_setlast rfl hcp hcm hjl2)
                      exact ⟨(j + 1, (.slice (some ⟨go, 0, none⟩) (M0 ++ [q]).length cap2), [⟨go, 91, pls (M0 ++ [⟨q.reel, q.i, max q.o p.o⟩]) ++ junk2⟩]), ⟨by show j + 1 ≤ l.length; omega, hRw⟩, by show l.length - (j + 1) < l.length - j; omega, kn_cons (by rfl) (kn_cons (by rfl) kn_nil), (by repeat (first | exact List.Sublist.refl _ | exact List.nil_sublist _ | refine List.Sublist.cons_cons _ ?_ | refine List.Sublist.cons _ ?_ | exact Sbp.refl | exact Sbp.nil | refine Sbp.cons (by repeat (first | exact Rem.head | apply Rem.tail)) ?_ | exact Sbp.app | refine Sbp.skip ?_ | exact List.sublist_append_left _ _ | exact List.sublist_append_right _ _))⟩
                    · have hb6p := of_decide_eq_false hb6
                      refine CS.skip ?_
                      refine thenC_n ?_
                      refine CS.region ?_
                      refine RS.q rfl (QO.move) ?_
                      first | (refine RS.q rfl (QO.loadB ty91 (by rfl) (by repeat (first | exact List.Mem.head _ | refine List.Mem.tail _ ?_)) (by rfl)) ?_) | (refine RS.q rfl (QO.loadA ty91 (by rfl) (by repeat (first | exact List.Mem.head _ | refine List.Mem.tail _ ?_)) (by rfl) (by rfl)) ?_) | (refine RS.q rfl (QO.loadOA ty91 (by rfl) (by assumption) (by rfl)) ?_)
                      refine RS.buildSlice rfl Tryd.underlying86 ty91 (by decide) (by decide) (by rfl) (by rfl) ?_
                      intro g112
                      refine RS.appendRow rfl Tryd.underlying86 ty91 (by rfl) hrow (by repeat (first | exact Suf.base | exact Suf.any _ _ | apply Suf.cons)) (by rfl) (Src.blk (by repeat (first | exact List.Mem.head _ | refine List.Mem.tail _ ?_))) (by rfl) (by rfl) (by decide) (by decide) (by unfold maxLen; omega) (by omega) ?_
                      intro v113 H113 hrow113
                      refine RS.q rfl (QO.assign) ?_
                      refine RS.nil ?_
                      refine blockC_n ?_
                      refine thenC_n ?_
                      refine CS.region ?_
                      first | (refine RS.q rfl (QO.add (by rfl) (by rfl) (by omega) (by omega)) ?_) | (refine RS.q rfl (QO.ibin (by rfl) (by rfl) trivial) ?_)
                      refine RS.q rfl (QO.move) ?_
                      refine RS.nil ?_
                      refine loopQ_n (by intro t ht; repeat (first | with_reducible exact rfl | exact frame_puts ht (frame_mix ht) _ rfl | (refine frame_put rfl ht ?_) | (refine frame_puts ht ?_ _ rfl) | exact frame_mix ht | (refine frame_mix2 rfl ht ?_) | exact rfl)) ?_
                      have hnx3 : (mrg ((lst d2 l.length).take (j + 1))) = mstep (mrg ((lst d2 l.length).take j)) p := by rw [take_next (l := (lst d2 l.length)) (i := j) (p := p) (by rw [← hp]; exact lst_at d2 (by omega)), mrg_app]
                      have hMe : (mrg ((lst d2 l.length).take (j + 1))) = (M0 ++ [q]) ++ [p] := by rw [hnx3, hM, mstep_last, if_neg (fun hh => by omega)]
                      have hRw : Row 91 3 v113 (mrg ((lst d2 l.length).take (j + 1))).length (pls (mrg ((lst d2 l.length).take (j + 1)))) H113 := row_app hMe hrow113
                      exact ⟨(j + 1, v113, H113), ⟨by show j + 1 ≤ l.length; omega, hRw⟩, by show l.length - (j + 1) < l.length - j; omega, kn_cons (by rfl) (kn_cons (by rfl) kn_nil), (by repeat (first | exact List.Sublist.refl _ | exact List.nil_sublist _ | refine List.Sublist.cons_cons _ ?_ | refine List.Sublist.cons _ ?_ | exact Sbp.refl | exact Sbp.nil | refine Sbp.cons (by repeat (first | exact Rem.head | apply Rem.tail)) ?_ | exact Sbp.app | refine Sbp.skip ?_ | exact List.sublist_append_left _ _ | exact List.sublist_append_right _ _))⟩
                  · refine RT.takeOff (i := 14) (dj := 85) rfl rfl (.inl (congrArg Value.bool hb5)) (fun _ => rfl) (by kernel_rfl) rfl ?_
                    refine RT.takeOff (i := 15) (dj := 85) rfl rfl (.inl (congrArg Value.bool hb5)) (fun _ => rfl) (by kernel_rfl) rfl ?_
                    refine RT.takeOff (i := 16) (dj := 85) rfl rfl (.inl (congrArg Value.bool hb5)) (fun _ => rfl) (by kernel_rfl) rfl ?_
                    refine RT.takeOff (i := 17) (dj := 85) rfl rfl (.inl (congrArg Value.bool hb5)) (fun _ => rfl) (by kernel_rfl) rfl ?_
                    refine RT.takeOff (i := 18) (dj := 85) rfl rfl (.inl (congrArg Value.bool hb5)) (fun _ => rfl) (by kernel_rfl) rfl ?_
                    refine RT.takeOff (i := 19) (dj := 85) rfl rfl (.inl (congrArg Value.bool hb5)) (fun _ => rfl) (by kernel_rfl) rfl ?_
                    refine RT.takeOff (i := 20) (dj := 85) rfl rfl (.inl (congrArg Value.bool hb5)) (fun _ => rfl) (by kernel_rfl) rfl ?_
                    refine RT.takeOff (i := 21) (dj := 85) rfl rfl (.inl (congrArg Value.bool hb5)) (fun _ => rfl) (by kernel_rfl) rfl ?_
                    refine RT.takeOff (i := 22) (dj := 85) rfl rfl (.inl (congrArg Value.bool hb5)) (fun _ => rfl) (by kernel_rfl) rfl ?_
                    refine RT.take (i := 23) rfl (by kernel_rfl) rfl (QO.pickF (by rfl) hb5 (by rfl)) ?_
                    refine RT.done (by kernel_rfl) ?_
                    refine thenC_n ?_
                    refine CS.condF (by rfl) rfl ?_
                    refine CS.skip ?_
                    refine thenC_n ?_
                    refine CS.region ?_
                    refine RS.q rfl (QO.move) ?_
                    first | (refine RS.q rfl (QO.loadB ty91 (by rfl) (by repeat (first | exact List.Mem.head _ | refine List.Mem.tail _ ?_)) (by rfl)) ?_) | (refine RS.q rfl (QO.loadA ty91 (by rfl) (by repeat (first | exact List.Mem.head _ | refine List.Mem.tail _ ?_)) (by rfl) (by rfl)) ?_) | (refine RS.q rfl (QO.loadOA ty91 (by rfl) (by assumption) (by rfl)) ?_)
                    refine RS.buildSlice rfl Tryd.underlying86 ty91 (by decide) (by decide) (by rfl) (by rfl) ?_
                    intro g112
                    refine RS.appendRow rfl Tryd.underlying86 ty91 (by rfl) hrow (by repeat (first | exact Suf.base | exact Suf.any _ _ | apply Suf.cons)) (by rfl) (Src.blk (by repeat (first | exact List.Mem.head _ | refine List.Mem.tail _ ?_))) (by rfl) (by rfl) (by decide) (by decide) (by unfold maxLen; omega) (by omega) ?_
                    intro v113 H113 hrow113
                    refine RS.q rfl (QO.assign) ?_
                    refine RS.nil ?_
                    refine blockC_n ?_
                    refine thenC_n ?_
                    refine CS.region ?_
                    first | (refine RS.q rfl (QO.add (by rfl) (by rfl) (by omega) (by omega)) ?_) | (refine RS.q rfl (QO.ibin (by rfl) (by rfl) trivial) ?_)
                    refine RS.q rfl (QO.move) ?_
                    refine RS.nil ?_
                    refine loopQ_n (by intro t ht; repeat (first | with_reducible exact rfl | exact frame_puts ht (frame_mix ht) _ rfl | (refine frame_put rfl ht ?_) | (refine frame_puts ht ?_ _ rfl) | exact frame_mix ht | (refine frame_mix2 rfl ht ?_) | exact rfl)) ?_
                    have hnx3 : (mrg ((lst d2 l.length).take (j + 1))) = mstep (mrg ((lst d2 l.length).take j)) p := by rw [take_next (l := (lst d2 l.length)) (i := j) (p := p) (by rw [← hp]; exact lst_at d2 (by omega)), mrg_app]
                    have hMe : (mrg ((lst d2 l.length).take (j + 1))) = (M0 ++ [q]) ++ [p] := by rw [hnx3, hM, mstep_last, if_neg (fun hh => absurd hh.1 (ne_of_beq_false (by assumption)))]
                    have hRw : Row 91 3 v113 (mrg ((lst d2 l.length).take (j + 1))).length (pls (mrg ((lst d2 l.length).take (j + 1)))) H113 := row_app hMe hrow113
                    exact ⟨(j + 1, v113, H113), ⟨by show j + 1 ≤ l.length; omega, hRw⟩, by show l.length - (j + 1) < l.length - j; omega, kn_cons (by rfl) (kn_cons (by rfl) kn_nil), (by repeat (first | exact List.Sublist.refl _ | exact List.nil_sublist _ | refine List.Sublist.cons_cons _ ?_ | refine List.Sublist.cons _ ?_ | exact Sbp.refl | exact Sbp.nil | refine Sbp.cons (by repeat (first | exact Rem.head | apply Rem.tail)) ?_ | exact Sbp.app | refine Sbp.skip ?_ | exact List.sublist_append_left _ _ | exact List.sublist_append_right _ _))⟩
              · have hb4p := of_decide_eq_false hb4
                refine CS.exit ?_
                refine thenC_x ?_
                refine loopQ_x ?_
                refine blockC_x ?_
                refine thenC_n ?_
                refine CS.seq ?_
                refine CS.region ?_
                refine RS.q rfl (QO.move) ?_
                refine RS.q rfl (QO.assign) ?_
                refine RS.q rfl (QO.assign) ?_
                refine RS.nil ?_
                refine thenC_n ?_
                refine CS.ret ?_
                refine retQ.mk (H' := Hi) (.inr rfl) (RVs.tmp (by rfl) (RVs.tmp (by rfl) RVs.nil)) (by repeat (first | exact List.Sublist.refl _ | exact List.nil_sublist _ | refine List.Sublist.cons_cons _ ?_ | refine List.Sublist.cons _ ?_ | exact Sbp.refl | exact Sbp.nil | refine Sbp.cons (by repeat (first | exact Rem.head | apply Rem.tail)) ?_ | exact Sbp.app | refine Sbp.skip ?_ | exact List.sublist_append_left _ _ | exact List.sublist_append_right _ _)) ?_
                have hje : j = l.length := by omega
                rw [hje, List.take_of_length_le (by rw [lst_len]; exact Nat.le_refl _)] at hrow
                exact SrcR.good (srcE_ok hE (by omega) (by omega)) hrow ⟨_, hLp, so_pairwise s2, rfl⟩

end Go.Proofs.YtapcgokcfmklbaaDoor

namespace Go.Proofs.YtapcgokcfmklbaaDoor
open Go Go.RowKit Go.Sort

/-- sorted -/
def srt (zs : List Int) : List Int := zs.mergeSort fun x y => decide (x ≤ y)
/-- each number once -/
def cmpI (zs : List Int) : List Int := Lib.compact zs
end Go.Proofs.YtapcgokcfmklbaaDoor

namespace Go.Proofs.YtapcgokcfmklbaaDoor
open Go Go.RowKit

/-- sorted, each once -/
def SD (zs : List Int) : List Int := cmpI (srt zs)
/-- marks of an event, of the first k events -/
def mkD (e : Ev) (q : Nat) : List Int := [e.at_, evEnd e] ++ (List.range q).map fun k => e.at_ + ((k + 1 : Nat) : Int)
def mkP (e : Ev) : List Int := mkD e e.len.toNat
def mkL (l : List Ev) : Nat → List Int
  | 0 => []
  | k + 1 => mkL l k ++ mkP (l.getD k default)
def T2 {α : Type} (x y : α) (s : Nat) : α := if s = 0 then x else y
/-- the marks that the program gathers -/
def PM (a b : List Ev) (M : Int) : Nat → List Int
  | 0 => [0, M]
  | s + 1 => PM a b M s ++ mkL (T2 a b s) (T2 a b s).length
/-- .. and the reference -/
def rkD (e : Ev) (q : Nat) : List Int := [e.at_, evEnd e] ++ (List.range q).map fun (k : Nat) => e.at_ + (k : Int)
def rkP (e : Ev) : List Int := rkD e (e.len + 1).toNat
def rkL (l : List Ev) : Nat → List Int
  | 0 => []
  | k + 1 => rkL l k ++ rkP (l.getD k default)
def RM (a b : List Ev) : Nat → List Int
  | 0 => [0]
  | s + 1 => RM a b s ++ rkL (T2 a b s) (T2 a b s).length
/-- what a film's marks are made of -/
def okE (e : Ev) : Prop := 0 ≤ e.at_ ∧ e.at_ ≤ 16777216 ∧ 0 ≤ e.inn ∧ e.inn < e.out ∧ e.out ≤ 16777216 ∧ 0 ≤ e.len ∧ e.len ≤ 250 ∧ e.len ≤ e.out - e.inn
theorem okE_of {t : List UInt8} {r : Int} {l : List Ev} (h : edE t r l = 0) {i : Nat} (hi : i < l.length) : okE (l.getD i default) := by
  have := evE1_ok ((edE_ok h).2.2.2 i hi)
  unfold okE
  omega
end Go.Proofs.YtapcgokcfmklbaaDoor

namespace Go.Proofs.YtapcgokcfmklbaaDoor
open Go Go.RowKit

def lastR (out : List (Int × Int)) : Int × Int := out.getD (out.length - 1) (0, 0)
def stepR (out : List (Int × Int)) (m t : Int) (al : Bool) : List (Int × Int) :=
  if al = true then out else if out.length ≠ 0 ∧ (lastR out).2 = m then out.dropLast ++ [((lastR out).1, t)] else out ++ [(m, t)]
def rngs (al : Int → Bool) (S : List Int) : Nat → List (Int × Int)
  | 0 => []
  | k + 1 => stepR (rngs al S k) (S.getD k 0) (S.getD (k + 1) 0) (al (S.getD k 0))
def alk (a b : List Ev) (m : Int) : Bool := decide ((atR a m).2 = (atR b m).2)
def rgC : List (Int × Int) → List Value
  | [] => []
  | p :: l => iv p.1 :: iv p.2 :: rgC l
def fdS (s : Sh) : List Fd := [.i 0, .s s.reel, .i s.frame, .s s.back, .i s.bf, .f s.share]
theorem fst_hit {l : List Ev} {f : Int} : ∀ {n i : Nat}, fst l f n = some i → i < n ∧ hit (l.getD i default) f = true ∧ fst l f i = none
  | 0, i, h => by cases h
  | n + 1, i, h => by
    unfold fst at h
    split at h
    · rename_i j hj
      cases h
      have := fst_hit hj
      exact ⟨by omega, this.2⟩
    · rename_i hn
      split at h
      · rename_i hh
        cases h
        exact ⟨by omega, hh, hn⟩
      · cases h
theorem share_ok {t : List UInt8} {r : Int} {l : List Ev} (hE : edE t r l = 0) (f : Int) : (atR l f).2.1.share = 0 ∨ (0 < (atR l f).2.1.share ∧ (atR l f).2.1.share < 2139095040) := by
  unfold atR
  cases h : fst l f l.length with
  | none => exact .inl rfl
  | some i =>
    right
    obtain ⟨h1, h2, _⟩ := fst_hit h
    have h3 := okE_of hE h1
    unfold okE at h3
    have h4 := of_decide_eq_true h2
    show 0 < (shOf l f i).share ∧ (shOf l f i).share < 2139095040
    unfold shOf
    split
    · rename_i h5
      have h6 := shB_ok (a := (f - (l.getD i default).at_ + 1).toNat) (b := ((l.getD i default).len + 1).toNat) (by omega) (by omega) (by omega)
      exact ⟨h6.2.1, h6.2.2.1⟩
    · exact ⟨by show 0 < 1065353216; decide, by show 1065353216 < 2139095040; decide⟩
def cmpE (ea eb : Int) : Int := if ea ≠ 0 then ea else eb
end Go.Proofs.YtapcgokcfmklbaaDoor

namespace Go.Proofs.YtapcgokcfmklbaaDoor
open Go Go.RowKit

theorem pos_read {b : Nat} (h : b < 2139095040) : Ieee.single.read b = if b < 8388608 then .number false b (-149) else .number false (8388608 + b % 8388608) (-149 + ((b / 8388608 - 1 : Nat) : Int)) := by
  have e1 : Ieee.single.signWeight = 2147483648 := rfl
  have e2 : Ieee.single.binade = 8388608 := rfl
  have e3 : Ieee.single.infRung = 2139095040 := rfl
  have e4 : Ieee.single.leastPlace = -149 := by decide
  unfold Ieee.Format.read
  simp only [e1, e2, e3, e4]
  have h1 : b / 2147483648 = 0 := Nat.div_eq_of_lt (by omega)
  have h2 : b % 2147483648 = b := Nat.mod_eq_of_lt (by omega)
  rw [h1, h2]
  by_cases h3 : b < 8388608
  · rw [if_pos h3, if_pos h3]; rfl
  · rw [if_neg h3, if_neg h3, if_pos h]; rfl
theorem pos_fval {b : Nat} (h : b < 2139095040) : numB b = true ∧ fval b = ((if b < 8388608 then b else (8388608 + b % 8388608) * 2 ^ (b / 8388608 - 1) : Nat) : Int) := by
  have hr := pos_read h
  by_cases h3 : b < 8388608
  · rw [if_pos h3] at hr
    refine ⟨by unfold numB; rw [hr], ?_⟩
    unfold fval
    rw [hr, if_pos h3]
    simp [Ieee.signed]
  · rw [if_neg h3] at hr
    refine ⟨by unfold numB; rw [hr], ?_⟩
    unfold fval
    rw [hr, if_neg h3]
    have e : (-149 + ((b / 8388608 - 1 : Nat) : Int) + 149).toNat = b / 8388608 - 1 := by omega
    simp only [Ieee.signed, e, Nat.shiftLeft_eq]
    rfl
theorem pw22 {q : Nat} (h : 1 ≤ q) : 2 ^ (q + 22) = 8388608 * 2 ^ (q - 1) := by
  have e : (2 : Nat) ^ 23 = 8388608 := by decide
  rw [show q + 22 = 23 + (q - 1) by omega, Nat.pow_add, e]
theorem pw23 {q : Nat} (h : 1 ≤ q) : 2 ^ (q + 23) = 16777216 * 2 ^ (q - 1) := by
  have e : (2 : Nat) ^ 24 = 16777216 := by decide
  rw [show q + 23 = 24 + (q - 1) by omega, Nat.pow_add, e]
theorem key_in {q r : Nat} (h1 : 1 ≤ q) (h2 : r < 8388608) : 2 ^ (q + 22) ≤ (8388608 + r) * 2 ^ (q - 1) ∧ (8388608 + r) * 2 ^ (q - 1) < 2 ^ (q + 23) := by
  rw [pw22 h1, pw23 h1]
  exact ⟨Nat.mul_le_mul_right _ (Nat.le_add_right ..), Nat.mul_lt_mul_of_pos_right (by omega) (Nat.two_pow_pos _)⟩
theorem key_lo {q r x : Nat} (h1 : 1 ≤ q) (h2 : r < 8388608) (hx : x < 8388608) : x ≠ (8388608 + r) * 2 ^ (q - 1) := fun e => by
  have h3 := (key_in h1 h2).1
  have h4 : (2 : Nat) ^ 23 ≤ 2 ^ (q + 22) := Nat.pow_le_pow_right (by decide) (by omega)
  have h5 : (2 : Nat) ^ 23 = 8388608 := by decide
  omega
theorem key_q {q r p s : Nat} (h1 : 1 ≤ q) (h2 : r < 8388608) (h3 : 1 ≤ p) (h4 : s < 8388608) (h : (8388608 + r) * 2 ^ (q - 1) = (8388608 + s) * 2 ^ (p - 1)) : q = p ∧ r = s := by
  have ka := key_in h1 h2
  have kb := key_in h3 h4
  have hq : q = p := by
    rcases Nat.lt_trichotomy q p with hl | hl | hl
    · have : 2 ^ (q + 23) ≤ 2 ^ (p + 22) := Nat.pow_le_pow_right (by decide) (by omega)
      omega
    · exact hl
    · have : 2 ^ (p + 23) ≤ 2 ^ (q + 22) := Nat.pow_le_pow_right (by decide) (by omega)
      omega
  subst hq
  have := Nat.mul_right_cancel (Nat.two_pow_pos _) h
  exact ⟨rfl, by omega⟩
theorem pos_inj {a b : Nat} (ha : a < 2139095040) (hb : b < 2139095040) (h : fval a = fval b) : a = b := by
  rw [(pos_fval ha).2, (pos_fval hb).2] at h
  have h := Int.ofNat.inj h
  have da := Nat.div_add_mod a 8388608
  have db := Nat.div_add_mod b 8388608
  have ma : a % 8388608 < 8388608 := Nat.mod_lt _ (by decide)
  have mb : b % 8388608 < 8388608 := Nat.mod_lt _ (by decide)
  by_cases h1 : a < 8388608
  · rw [if_pos h1] at h
    by_cases h2 : b < 8388608
    · rw [if_pos h2] at h; exact h
    · rw [if_neg h2] at h
      exact absurd h (key_lo (by omega) mb h1)
  · rw [if_neg h1] at h
    by_cases h2 : b < 8388608
    · rw [if_pos h2] at h
      exact absurd h.symm (key_lo (by omega) ma h2)
    · rw [if_neg h2] at h
      obtain ⟨k1, k2⟩ := key_q (by omega) ma (by omega) mb h
      omega
theorem pos_eql {a b : Nat} (ha : a < 2139095040) (hb : b < 2139095040) : fcmpB .eql a b = decide (a = b) := by
  unfold fcmpB
  rw [order_fval (pos_fval ha).1 (pos_fval hb).1]
  by_cases e : a = b
  · subst e; rw [cmp_self, decide_eq_true rfl]; rfl
  · have h1 : fval a ≠ fval b := fun h => e (pos_inj ha hb h)
    rw [decide_eq_false e]
    rcases Int.lt_trichotomy (fval a) (fval b) with h | h | h
    · rw [Int.compare_eq_lt.2 h]; rfl
    · exact absurd h h1
    · rw [Int.compare_eq_gt.2 h]; rfl
theorem share_pos {t : List UInt8} {r : Int} {l : List Ev} (hE : edE t r l = 0) (f : Int) : (atR l f).2.1.share < 2139095040 := by
  have := share_ok hE f
  omega
/-- the last end -/
def enK (l : List Ev) (m : Int) : Nat → Int
  | 0 => m
  | k + 1 => max (enK l m k) (evEnd (l.getD k default))
def LS (a b : List Ev) : Nat → Int
  | 0 => 0
  | s + 1 => enK (T2 a b s) (LS a b s) (T2 a b s).length
end Go.Proofs.YtapcgokcfmklbaaDoor

namespace Go.Proofs.YtapcgokcfmklbaaDoor
open Go Go.RowKit

theorem cv_scale : ∀ k : Nat, k < 252 → 0 < k → (match Ieee.single.read (cvF (k : Int)) with | .number false m i => decide (m = k * 2 ^ (-i).toNat) && decide (i ≤ 0) | _ => false) = true := by decide +kernel
theorem cv_m {k m : Nat} {i : Int} (h1 : k < 252) (h2 : 0 < k) (h : Ieee.single.read (cvF (k : Int)) = .number false m i) : m = k * 2 ^ (-i).toNat ∧ i ≤ 0 := by
  have h3 := cv_scale k h1 h2
  rw [h] at h3
  simp only [Bool.and_eq_true, decide_eq_true_eq] at h3
  exact h3
theorem shB_le {a b : Nat} (h1 : 1 ≤ a) (h2 : a < b) (h3 : b ≤ 251) : 0 < shB a b ∧ shB a b ≤ 1065353216 := by
  refine ⟨(shB_ok h1 h2 h3).2.1, ?_⟩
  obtain ⟨m, i, hx, m1, m2, i1, i2⟩ := cv_num (k := a) (by omega) (by omega)
  obtain ⟨n, j, hy, n1, n2, j1, j2⟩ := cv_num (k := b) (by omega) (by omega)
  have sm := cv_m (by omega) (by omega) hx
  have sn := cv_m (by omega) (by omega) hy
  have hij : i < j ∨ (i = j ∧ m < n) := by
    rcases Int.lt_trichotomy i j with h | h | h
    · exact .inl h
    · subst h
      refine .inr ⟨rfl, ?_⟩
      rw [sm.1, sn.1]
      exact Nat.mul_lt_mul_of_pos_right h2 (Nat.two_pow_pos _)
    · exfalso
      have e : (2 : Nat) ^ ((-i).toNat + 1) ≤ 2 ^ (-j).toNat := Nat.pow_le_pow_right (by decide) (by omega)
      rw [Nat.pow_succ] at e
      have k1 : a * (2 ^ (-i).toNat * 2) ≤ b * 2 ^ (-j).toNat := Nat.mul_le_mul (by omega) e
      rw [← Nat.mul_assoc, ← sm.1, ← sn.1] at k1
      omega
  have hm0 : m ≠ 0 := by omega
  have hn0 : n ≠ 0 := by omega
  have hn1 : 0 < n := by omega
  have hd : fop .quo (cvF a) (cvF b) = _ := single_div hx hy hn0
  rw [log_23 m1 m2, log_23 n1 n2, show 25 + 23 - 23 = 25 from rfl] at hd
  have c25 : (2 : Nat) ^ 25 = 33554432 := by decide
  have c26 : (2 : Nat) ^ 26 = 67108864 := by decide
  have c27 : (2 : Nat) ^ 27 = 134217728 := by decide
  have hQ1 : 16777216 ≤ m * 2 ^ 25 / n := (Nat.le_div_iff_mul_le hn1).2 (by rw [c25]; omega)
  have hQ2 : m * 2 ^ 25 / n < 67108864 := (Nat.div_lt_iff_lt_mul hn1).2 (by rw [c25]; omega)
  have hQ3 : m < n → m * 2 ^ 25 / n < 33554432 := fun h => (Nat.div_lt_iff_lt_mul hn1).2 (by rw [c25]; omega)
  have hs12 : 2 * (m * 2 ^ 25 / n) ≤ stk (m * 2 ^ 25) n ∧ stk (m * 2 ^ 25) n ≤ 2 * (m * 2 ^ 25 / n) + 1 := by unfold stk; split <;> omega
  have hne1 : stk (m * 2 ^ 25) n ≠ 0 := by omega
  obtain ⟨S, hS⟩ : ∃ S, stk (m * 2 ^ 25) n = S := ⟨_, rfl⟩
  rw [hS] at hd hne1 hs12
  obtain ⟨l, hl⟩ : ∃ l, S.log2 = l := ⟨_, rfl⟩
  have hl12 : l = 25 ∨ (l = 26 ∧ ¬ m < n) := by
    have k1 : 25 ≤ l := by rw [← hl]; exact (Nat.le_log2 hne1).2 (by rw [c25]; omega)
    have k2 : l < 27 := by rw [← hl]; exact (Nat.log2_lt hne1).2 (by rw [c27]; omega)
    have k3 : m < n → l < 26 := fun h => by
      have := hQ3 h
      rw [← hl]; exact (Nat.log2_lt hne1).2 (by rw [c26]; omega)
    by_cases h : m < n
    · have := k3 h; omega
    · omega
  have g1 : Ieee.single.fractionBits = 23 := rfl
  have g2 : Ieee.single.leastPlace = -149 := by decide
  have g3 : Ieee.single.binade = 8388608 := by decide
  have g4 : Ieee.single.infRung = 2139095040 := by decide
  obtain ⟨p, hp⟩ : ∃ p : Int, i - j - ((25 : Nat) : Int) - 1 = p := ⟨_, rfl⟩
  rw [hp] at hd
  have hnr := nearest_rnd Ieee.single (false ^^ false) hne1 (p := p) (L := p + l - 23) (by rw [g1, g2, hl]; omega)
  have q1 : (p - (p + l - 23)).toNat = 0 := by omega
  have q2 : (p + l - 23 - p).toNat = l - 23 := by omega
  rw [q1, q2, Nat.pow_zero, Nat.mul_one, g2, g3, g4] at hnr
  have hb := rnd_bd (m := S) (k := l - 23) hne1 (by omega)
  rw [hl, show l - (l - 23) = 23 by omega] at hb
  have c23 : (2 : Nat) ^ 23 = 8388608 := by decide
  have c24 : (2 : Nat) ^ (23 + 1) = 16777216 := by decide
  rw [c23, c24] at hb
  obtain ⟨u, hu⟩ : ∃ u : Nat, (p + l - 23 - -149).toNat = u := ⟨_, rfl⟩
  have hub : u ≤ 125 := by
    rcases hij with h | ⟨h, hmn⟩
    · rcases hl12 with hl | ⟨hl, _⟩ <;> omega
    · rcases hl12 with hl | ⟨hl, hn⟩
      · omega
      · exact absurd hmn hn
  rw [hu, Nat.min_eq_left (by omega)] at hnr
  have hw : Ieee.single.word (false ^^ false) (u * 8388608 + rnd S (l - 23)) = u * 8388608 + rnd S (l - 23) := rfl
  rw [hw] at hnr
  rw [hnr] at hd
  have hsh : shB a b = u * 8388608 + rnd S (l - 23) := by unfold shB; rw [hd]; rfl
  rw [hsh]
  omega
theorem fval_0 : fval 0 = 0 := by rw [(pos_fval (by decide)).2]; rfl
theorem fval_1 : fval 1065353216 = ((2 ^ 149 : Nat) : Int) := by rw [(pos_fval (by decide)).2]; decide
theorem le_one {r : Nat} (h : 0 < r) (h1 : r ≤ 1065353216) : 0 < fval r ∧ fval r ≤ fval 1065353216 := by
  by_cases he : r = 1065353216
  · subst he
    exact ⟨by rw [fval_1]; decide, Int.le_refl _⟩
  rw [fval_1, (pos_fval (by omega)).2]
  by_cases hs : r < 8388608
  · rw [if_pos hs]
    have e : (2 : Nat) ^ 23 ≤ 2 ^ 149 := Nat.pow_le_pow_right (by decide) (by decide)
    have h5 : (2 : Nat) ^ 23 = 8388608 := by decide
    exact ⟨Int.ofNat_lt.2 h, Int.ofNat_le.2 (by omega)⟩
  · rw [if_neg hs]
    have k := key_in (q := r / 8388608) (r := r % 8388608) (by omega) (Nat.mod_lt _ (by decide))
    have e : (2 : Nat) ^ (r / 8388608 + 23) ≤ 2 ^ 149 := Nat.pow_le_pow_right (by decide) (by omega)
    have p := Nat.two_pow_pos (r / 8388608 + 22)
    exact ⟨Int.ofNat_lt.2 (Nat.lt_of_lt_of_le p k.1), Int.ofNat_le.2 (Nat.le_of_lt (Nat.lt_of_lt_of_le k.2 e))⟩
theorem share_rng {r : Nat} (h : 0 < r) (h1 : r ≤ 1065353216) : fcmpB .gtr r 0 = true ∧ fcmpB .leq r 1065353216 = true := by
  have k := le_one h h1
  have n := (pos_fval (b := r) (by omega)).1
  refine ⟨?_, ?_⟩
  · unfold fcmpB
    rw [order_fval n (pos_fval (by decide)).1, fval_0, Int.compare_eq_gt.2 k.1]; rfl
  · unfold fcmpB
    rw [order_fval n (pos_fval (by decide)).1]
    rcases Int.lt_or_eq_of_le k.2 with h | h
    · rw [Int.compare_eq_lt.2 h]; rfl
    · rw [h, cmp_self]; rfl
theorem share_one : fcmpB .gtr 1065353216 0 = true ∧ fcmpB .leq 1065353216 1065353216 = true := share_rng (by decide) (Nat.le_refl _)
/-- what stands in a frame -/
theorem atR_hit {t : List UInt8} {r hd f : Int} {l : List Ev} {i : Nat} {s : Sh} (hE : edE t r l = 0) (h0 : 0 ≤ hd) (h1 : hd ≤ 1000) (h : atR l f = (i, s, 0)) :
    (fcmpB .gtr s.share 0 = true ∧ fcmpB .leq s.share 1065353216 = true) ∧ (∃ k, k < l.length ∧ (pullP l hd k).reel = s.reel ∧ (pullP l hd k).i ≤ s.frame ∧ s.frame < (pullP l hd k).o) ∧
    (s.back = [] ∨ (s.back ≠ [] ∧ ∃ k, k < l.length ∧ (pullP l hd k).reel = s.back ∧ (pullP l hd k).i ≤ s.bf ∧ s.bf < (pullP l hd k).o)) := by
  unfold atR at h
  cases hf : fst l f l.length with
  | none =>
    rw [hf] at h
    have := congrArg (fun x => x.2.2) h
    simp at this
  | some j =>
    rw [hf] at h
    simp only [Prod.mk.injEq] at h
    obtain ⟨rfl, rfl, _⟩ := h
    obtain ⟨k1, k2, _⟩ := fst_hit hf
    have k3 := of_decide_eq_true k2
    have o := ev_ok hE k1
    have nb := nxD_bd hE j
    unfold evEnd at k3
    have part1 : ∃ k, k < l.length ∧ (pullP l hd k).reel = (l.getD j default).reel ∧ (pullP l hd k).i ≤ (l.getD j default).inn + f - (l.getD j default).at_ ∧ (l.getD j default).inn + f - (l.getD j default).at_ < (pullP l hd k).o := by
      refine ⟨j, k1, rfl, ?_, ?_⟩ <;> unfold pullP <;> simp only <;> omega
    unfold shOf
    by_cases hd2 : f - (l.getD j default).at_ < (l.getD j default).len
    · rw [if_pos hd2]
      have hk2 : (l.getD j default).kind = 2 ∧ 1 ≤ (l.getD j default).len ∧ (l.getD j default).len ≤ 250 := by omega
      have hcf := evE1_ok ((edE_ok hE).2.2.2 j k1)
      have hj0 : j ≠ 0 ∧ (l.getD j default).at_ = endB l j ∧ (l.getD j default).len ≤ (l.getD j default).out - (l.getD j default).inn := by
        obtain ⟨_, _, _, _, _, _, _, _, hh⟩ := hcf
        omega
      have hs0 := shB_le (a := (f - (l.getD j default).at_ + 1).toNat) (b := ((l.getD j default).len + 1).toNat) (by omega) (by omega) (by omega)
      have hsh := share_rng hs0.1 hs0.2
      refine ⟨hsh, part1, .inr ⟨?_, j - 1, by omega, rfl, ?_, ?_⟩⟩
      · have hn := (ev_ok hE (show j - 1 < l.length by omega)).1
        intro he
        simp only at he
        rw [he] at hn
        exact absurd hn (by decide)
      · have op := ev_ok hE (show j - 1 < l.length by omega)
        have he := hj0.2.1
        unfold endB evEnd at he
        rw [if_neg hj0.1] at he
        unfold pullP
        simp only
        omega
      · have op := ev_ok hE (show j - 1 < l.length by omega)
        have he := hj0.2.1
        unfold endB evEnd at he
        rw [if_neg hj0.1] at he
        have hnx : nxD l (j - 1) = (l.getD j default).len := by
          have := nxD_T (l := l) (k := j - 1) (by omega) (by rw [show j - 1 + 1 = j by omega]; exact hk2.1)
          rw [show j - 1 + 1 = j by omega] at this
          exact this
        unfold pullP
        simp only
        rw [hnx]
        omega
    · rw [if_neg hd2]
      exact ⟨share_one, part1, .inl rfl⟩
/-- .. is fetched -/
theorem IsM.has {l : List Ev} {hd : Int} {m : List Pl} (hM : IsM l hd m) {k : Nat} (hk : k < l.length) {n : Int} (h1 : (pullP l hd k).i ≤ n) (h2 : n < (pullP l hd k).o) : hasF m (pullP l hd k).reel n := by
  obtain ⟨L, p1, s1, rfl⟩ := hM
  refine mrg_has (s1.imp fun {x y} h hr => ?_) (p1.symm.subset (List.mem_map.2 ⟨k, List.mem_range.2 hk, rfl⟩)) h1 h2
  rw [ltP_f] at h
  exact h.2 hr.symm
def anyP (m : List Pl) (r : List UInt8) (n : Int) : Bool := m.any fun q => (q.reel == r && decide (q.i ≤ n)) && decide (n < q.o)
theorem anyP_of {m : List Pl} {r : List UInt8} {n : Int} (h : hasF m r n) : anyP m r n = true := by
  obtain ⟨q, h1, h2, h3, h4⟩ := h
  unfold anyP
  rw [List.any_eq_true]
  exact ⟨q, h1, by simp [h2, h3, h4]⟩
end Go.Proofs.YtapcgokcfmklbaaDoor
