/-
  Contracts: dyeref1.Compare. Conditions: as each theorem says.
-/
import Derived.Test.YtapcgokcfmklbaaDoorF3
import Derived.Test.YtapcgokcfmklbaaDoorMrk3
namespace Go.Proofs.YtapcgokcfmklbaaDoor
open Go Go.Proofs Go.RowKit

theorem ok44 : callOK Tryd.prog 44 = true := by kernel_rfl

set_option maxHeartbeats 16000000 in
set_option maxRecDepth 100000 in
theorem rcompare (t t2 : List UInt8) (r r2 : Int) (A A2 : Option Addr) (c c2 : Nat) (a b : List Ev) (W : World) (ht : t.length ≤ maxLen) (ht2 : t2.length ≤ maxLen) (hA : ES W A a) (hA2 : ES W A2 b) (hr : ∀ e ∈ a, e.reel.length ≤ maxLen) (hr2 : ∀ e ∈ b, e.reel.length ≤ maxLen) (hm : a.length ≤ maxLen) (hm2 : b.length ≤ maxLen) (hEa : edE t r a = 0) (hEb : edE t2 r2 b = 0) (hnn : ∀ x ∈ SD (RM a b 2), 0 ≤ x) (hla9 : LS a b 2 ≤ (SD (RM a b 2)).getD ((SD (RM a b 2)).length - 1) 0) : Fn_ Tryd.prog 41 #[.agg #[sv t, iv r, .slice A a.length c], .agg #[sv t2, iv r2, .slice A2 b.length c2]] W (fun v H => Row 77 2 v (rngs (alk a b) (SD (RM a b 2)) ((SD (RM a b 2)).length - 1)).length (rgC (rngs (alk a b) (SD (RM a b 2)) ((SD (RM a b 2)).length - 1))) H) := by
  refine Fn_.intro Tryd.func41 rfl rfl (by rfl) ?_
  refine CS.seq ?_
  refine CS.region ?_
  refine RS.box rfl (by rfl) (by rfl) ?_
  intro g2
  refine RS.box rfl (by rfl) (by rfl) ?_
  intro g3
  refine RS.q rfl (QO.assign) ?_
  refine RS.nil ?_
  refine thenC_n ?_
  refine CS.seq ?_
  refine CS.region ?_
  refine RS.q rfl (QO.assign) ?_
  refine RS.nil ?_
  refine thenC_n ?_
  refine CS.seq ?_
  refine CS.region ?_
  refine RS.buildSlice rfl Tryd.underlying22 ty3 (by decide) (by decide) (by rfl) (by rfl) ?_
  intro g21
  refine RS.q rfl (QO.assign) ?_
  refine RS.nil ?_
  refine thenC_n ?_
  refine CS.seq ?_
  refine CS.seq ?_
  refine CS.region ?_
  refine RS.q rfl (QO.loadB ty52 (by rfl) (by repeat (first | exact List.Mem.head _ | refine List.Mem.tail _ ?_)) (by rfl)) ?_
  refine RS.q rfl (QO.loadB ty52 (by rfl) (by repeat (first | exact List.Mem.head _ | refine List.Mem.tail _ ?_)) (by rfl)) ?_
  refine RS.buildSlice rfl Tryd.underlying148 ty52 (by decide) (by decide) (by rfl) (by rfl) ?_
  intro g24
  refine RS.q rfl (QO.lenS Tryd.underlying148 (by rfl)) ?_
  refine RS.q rfl (QO.move) ?_
  refine RS.nil ?_
  refine thenC_n ?_
  refine CS.block ?_
  have hla := (edE_ok hEa).2.2.1
  have hlb := (edE_ok hEb).2.2.1
  have hoka : ∀ i, i < a.length → okE (a.getD i default) := fun i hi => okE_of hEa hi
  have hokb : ∀ i, i < b.length → okE (b.getD i default) := fun i hi => okE_of hEb hi
  have hPl := RM_len hoka hokb hla hlb
  refine CS.loop (X := Nat × Value × HL) (5 :: 6 :: 8 :: 10 :: 11 :: 26 :: 27 :: 28 :: 29 :: 30 :: 31 :: 32 :: 33 :: 34 :: 35 :: 36 :: 37 :: 38 :: 39 :: 40 :: 41 :: 42 :: 43 :: 44 :: 45 :: 46 :: 47 :: 48 :: 49 :: 50 :: 51 :: 52 :: 53 :: 54 :: 55 :: 56 :: 57 :: 58 :: 59 :: 60 :: 61 :: 62 :: 63 :: []) (fun z => [(26, iv (z.1 : Int)), (5, iv (LS a b z.1)), (6, z.2.1)]) (fun z => ⟨g24, 52, [sv t, iv r, .slice A a.length c, sv t2, iv r2, .slice A2 b.length c2]⟩ :: ⟨g3, 52, [sv t2, iv r2, .slice A2 b.length c2]⟩ :: ⟨g2, 52, [sv t, iv r, .slice A a.length c]⟩ :: z.2.2) (fun z => z.1 ≤ 2 ∧ Row 3 1 z.2.1 (RM a b z.1).length ((RM a b z.1).map (Value.int .i64)) z.2.2) (fun z => 2 - z.1) (0, .slice (some ⟨g21, 0, none⟩) 1 1, [⟨g21, 3, [iv 0]⟩]) ⟨Nat.zero_le _, .own (junk := []) rfl rfl (Nat.le_refl _) (by decide)⟩ ?_ ?_ ?_
  · exact kn_cons (by rfl) (kn_cons (by rfl) (kn_cons (by rfl) kn_nil))
  · exact (by repeat (first | exact List.Sublist.refl _ | exact List.nil_sublist _ | refine List.Sublist.cons_cons _ ?_ | refine List.Sublist.cons _ ?_ | exact Sbp.refl | exact Sbp.nil | refine Sbp.cons (by repeat (first | exact Rem.head | apply Rem.tail)) ?_ | exact Sbp.app | refine Sbp.skip ?_))
  intro z gj4 hz
  obtain ⟨s, vo, Hr⟩ := z
  obtain ⟨hs2, hrow⟩ := hz
  simp only at hs2 hrow
  have hPs := hPl s
  show CS _ _ _ _ _ (puts (mix _ _ _) [(26, iv (s : Int)), (5, iv (LS a b s)), (6, vo)]) (⟨g24, 52, [sv t, iv r, .slice A a.length c, sv t2, iv r2, .slice A2 b.length c2]⟩ :: ⟨g3, 52, [sv t2, iv r2, .slice A2 b.length c2]⟩ :: ⟨g2, 52, [sv t, iv r, .slice A a.length c]⟩ :: Hr)
  refine CS.seq ?_
  refine CS.region ?_
  refine RS.q rfl (QO.lss (by rfl) (by rfl)) ?_
  refine RS.nil ?_
  refine thenC_n ?_
  refine CS.seq ?_
  refine CS.cond (by rfl) (fun hb0 => ?_) (fun hb0 => ?_)
  · have hb0p := of_decide_eq_true hb0
    refine CS.skip ?_
    refine thenC_n ?_
    refine CS.seq ?_
    refine CS.block ?_
    refine CS.seq ?_
    refine CS.region ?_
    have hxS := pk2 (c := c) (c2 := c2) (t := t) (t2 := t2) (r := r) (r2 := r2) hA hA2 ht ht2 hr hr2 hm hm2 s (by omega)
    obtain ⟨tS, rS, AS, cS, lS, hTS, hES, hAS, hvS, htS, hrS, hmS⟩ := hxS
    refine RS.qv rfl (QO.idx Tryd.underlying148 ty52 (by rfl) (by rfl) (by omega) (by omega)) (congrArg (fun o => Value.pointer (some ⟨g24, o, none⟩)) (Nat.zero_add _)) ?_
    refine RS.q rfl (QO.loadA ty52 (g := g24) (o := s * 3) (cs := [sv t, iv r, .slice A a.length c, sv t2, iv r2, .slice A2 b.length c2]) (vs := [sv tS, iv rS, .slice AS lS.length cS]) (by rfl) (by repeat (first | exact List.Mem.head _ | refine List.Mem.tail _ ?_)) hvS rfl) ?_
    refine RS.alloc rfl ty52 ?_
    intro g8
    refine RS.storeB ty52 (by rfl) (by rfl) (by rfl) (by rfl) (by rfl) (by repeat (first | exact Upd.head | apply Upd.tail)) (by rfl) ?_
    refine RS.nil ?_
    refine thenC_n ?_
    refine CS.seq ?_
    refine CS.region ?_
    refine RS.q rfl (QO.fieldAddr fo52_2 (by rfl)) ?_
    refine RS.q rfl (QO.load ty50 (by rfl) (by repeat (first | exact List.Mem.head _ | refine List.Mem.tail _ ?_)) (by rfl)) ?_
    refine RS.q rfl (QO.lenS Tryd.underlying50 (by rfl)) ?_
    refine RS.q rfl (QO.move) ?_
    refine RS.nil ?_
    refine thenC_n ?_
    refine CS.block ?_
    have hlS : lS.length ≤ 500 := by rw [← hTS]; exact T2_all (P := fun l => l.length ≤ 500) hla hlb s
    have hokS : ∀ i, i < lS.length → okE (lS.getD i default) := by rw [← hTS]; exact T2_all (P := fun l => ∀ i, i < l.length → okE (l.getD i default)) hoka hokb s
    refine CS.loop (X := Nat × Value × HL) (5 :: 6 :: 10 :: 11 :: 33 :: 34 :: 35 :: 36 :: 37 :: 38 :: 39 :: 40 :: 41 :: 42 :: 43 :: 44 :: 45 :: 46 :: 47 :: 48 :: 49 :: 50 :: 51 :: 52 :: 53 :: 54 :: 55 :: 56 :: 57 :: 58 :: 59 :: 60 :: 61 :: 62 :: []) (fun z => [(33, iv (z.1 : Int)), (5, iv (enK lS (LS a b s) z.1)), (6, z.2.1)]) (fun z => ⟨g8, 52, [sv tS, iv rS, .slice AS lS.length cS]⟩ :: ⟨g24, 52, [sv t, iv r, .slice A a.length c, sv t2, iv r2, .slice A2 b.length c2]⟩ :: ⟨g3, 52, [sv t2, iv r2, .slice A2 b.length c2]⟩ :: ⟨g2, 52, [sv t, iv r, .slice A a.length c]⟩ :: z.2.2) (fun z => z.1 ≤ lS.length ∧ Row 3 1 z.2.1 (RM a b s ++ rkL lS z.1).length ((RM a b s ++ rkL lS z.1).map (Value.int .i64)) z.2.2) (fun z => lS.length - z.1) (0, vo, Hr) ⟨Nat.zero_le _, by rw [show rkL lS 0 = [] from rfl, List.append_nil]; exact hrow⟩ ?_ ?_ ?_
    · exact kn_cons (by rfl) (kn_cons (by rfl) (kn_cons (by rfl) kn_nil))
    · exact (by repeat (first | exact List.Sublist.refl _ | exact List.nil_sublist _ | refine List.Sublist.cons_cons _ ?_ | refine List.Sublist.cons _ ?_ | exact Sbp.refl | exact Sbp.nil | refine Sbp.cons (by repeat (first | exact Rem.head | apply Rem.tail)) ?_ | exact Sbp.app | refine Sbp.skip ?_))
    intro z gj7 hz
    clear hrow
    obtain ⟨k, vo, Hr⟩ := z
    obtain ⟨hk, hrow⟩ := hz
    simp only at hk hrow
    have hbl : (RM a b s ++ rkL lS k).length ≤ 400000 := by have := rkL_len hokS k hk; rw [List.length_append]; omega
    show CS _ _ _ _ _ (puts (mix _ _ _) [(33, iv (k : Int)), (5, iv (enK lS (LS a b s) k)), (6, vo)]) (⟨g8, 52, [sv tS, iv rS, .slice AS lS.length cS]⟩ :: ⟨g24, 52, [sv t, iv r, .slice A a.length c, sv t2, iv r2, .slice A2 b.length c2]⟩ :: ⟨g3, 52, [sv t2, iv r2, .slice A2 b.length c2]⟩ :: ⟨g2, 52, [sv t, iv r, .slice A a.length c]⟩ :: Hr)
    refine CS.seq ?_
    refine CS.region ?_
    refine RS.q rfl (QO.lss (by rfl) (by rfl)) ?_
    refine RS.nil ?_
    refine thenC_n ?_
    refine CS.seq ?_
    refine CS.cond (by rfl) (fun hb1 => ?_) (fun hb1 => ?_)
    · have hb1p := of_decide_eq_true hb1
      refine CS.skip ?_
      refine thenC_n ?_
      refine CS.seq ?_
      refine CS.block ?_
      refine CS.seq ?_
      refine CS.region ?_
      have hx1 := hAS.at_ (show k < lS.length by omega)
      obtain ⟨bA, oA, hA0, hcell⟩ := hx1
      subst hA0
      have hx2 : ∃ e, lS.getD k default = e := ⟨_, rfl⟩
      obtain ⟨e, he⟩ := hx2
      rw [he] at hcell
      have hoe := hokS k (by omega)
      rw [he] at hoe
      unfold okE at hoe
      refine RS.q rfl (QO.idx Tryd.underlying50 ty134 (by rfl) (by rfl) (by omega) (by omega)) ?_
      refine RS.q rfl (QO.loadOA ty134 (vs := evc e) (by rfl) hcell (by rfl)) ?_
      refine RS.alloc rfl ty134 ?_
      intro g10
      refine RS.storeB ty134 (by rfl) (by rfl) (by rfl) (by rfl) (by rfl) (by repeat (first | exact Upd.head | apply Upd.tail)) (by rfl) ?_
      refine RS.nil ?_
      refine thenC_n ?_
      refine CS.seq ?_
      refine CS.region ?_
      refine RS.q rfl (QO.move) ?_
      refine RS.q rfl (QO.loadB ty134 (by rfl) (by repeat (first | exact List.Mem.head _ | refine List.Mem.tail _ ?_)) (by rfl)) ?_
      refine RS.call rfl (by rfl) ok102 (by rfl) (fun w ho => rend e _ (by omega) (by omega)) ?_
      rintro _ _ ⟨rfl, rfl⟩
      refine RS.q rfl (QO.max2 (by rfl) (by rfl)) ?_
      refine RS.q rfl (QO.assign) ?_
      refine RS.nil ?_
      refine thenC_n ?_
      refine CS.seq ?_
      refine CS.drawS (HS := ⟨g10, 134, [sv e.reel, iv e.kind, iv e.len, iv e.inn, iv e.out, iv e.at_]⟩ :: ⟨g8, 52, [sv tS, iv rS, .slice (some ⟨bA, oA, none⟩) lS.length cS]⟩ :: ⟨g24, 52, [sv t, iv r, .slice A a.length c, sv t2, iv r2, .slice A2 b.length c2]⟩ :: ⟨g3, 52, [sv t2, iv r2, .slice A2 b.length c2]⟩ :: ⟨g2, 52, [sv t, iv r, .slice A a.length c]⟩ :: []) 8 (by repeat (first | exact List.Sublist.refl _ | exact List.nil_sublist _ | refine List.Sublist.cons_cons _ ?_ | refine List.Sublist.cons _ ?_ | exact Sbp.refl | exact Sbp.nil | refine Sbp.cons (by repeat (first | exact Rem.head | apply Rem.tail)) ?_ | exact Sbp.app | refine Sbp.skip ?_)) rfl (by kernel_rfl) (by kernel_rfl) ?_
      refine RT.take (i := 0) rfl (by kernel_rfl) rfl (QO.move) ?_
      refine RT.take (i := 1) rfl (by kernel_rfl) rfl (QO.fieldAddr fo134_5 (by rfl)) ?_
      refine RT.take (i := 2) rfl (by kernel_rfl) rfl (QO.load ty3 (by rfl) (by repeat (first | exact List.Mem.head _ | refine List.Mem.tail _ ?_)) (by rfl)) ?_
      refine RT.take (i := 3) rfl (by kernel_rfl) rfl (QO.loadB ty134 (by rfl) (by repeat (first | exact List.Mem.head _ | refine List.Mem.tail _ ?_)) (by rfl)) ?_
      refine RT.one (i := 4) (by kernel_rfl) rfl rfl ?_
      refine RS.call rfl (by rfl) ok102 (by rfl) (fun w ho => rend e _ (by omega) (by omega)) ?_
      rintro _ _ ⟨rfl, rfl⟩
      refine RS.nil ⟨(by repeat (first | exact List.Sublist.refl _ | exact List.nil_sublist _ | refine List.Sublist.cons_cons _ ?_ | refine List.Sublist.cons _ ?_ | exact Sbp.refl | exact Sbp.nil | refine Sbp.cons (by repeat (first | exact Rem.head | apply Rem.tail)) ?_ | exact Sbp.app | refine Sbp.skip ?_)), ?_⟩
      refine RT.one (i := 5) (by kernel_rfl) rfl rfl ?_
      refine RS.buildSlice rfl Tryd.underlying22 ty3 (by decide) (by decide) (by rfl) (by rfl) ?_
      intro g46
      refine RS.nil ⟨(by repeat (first | exact List.Sublist.refl _ | exact List.nil_sublist _ | refine List.Sublist.cons_cons _ ?_ | refine List.Sublist.cons _ ?_ | exact Sbp.refl | exact Sbp.nil | refine Sbp.cons (by repeat (first | exact Rem.head | apply Rem.tail)) ?_ | exact Sbp.app | refine Sbp.skip ?_)), ?_⟩
      refine RT.one (i := 6) (by kernel_rfl) rfl rfl ?_
      refine RS.appendRow rfl Tryd.underlying22 ty3 (by rfl) hrow (by repeat (first | exact Suf.base | apply Suf.cons)) (by rfl) (Src.blk (by repeat (first | exact List.Mem.head _ | refine List.Mem.tail _ ?_))) (by rfl) (by rfl) (by decide) (by decide) (by unfold maxLen; omega) (by omega) ?_
      intro v47 H47 hrow47
      refine RS.nil ⟨(by repeat (first | exact List.Sublist.refl _ | exact List.nil_sublist _ | refine List.Sublist.cons_cons _ ?_ | refine List.Sublist.cons _ ?_ | exact Sbp.refl | exact Sbp.nil | refine Sbp.cons (by repeat (first | exact Rem.head | apply Rem.tail)) ?_ | exact Sbp.app | refine Sbp.skip ?_)), ?_⟩
      refine RT.take (i := 7) rfl (by kernel_rfl) rfl (QO.assign) ?_
      refine RT.done (by kernel_rfl) ?_
      refine thenC_n ?_
      refine CS.seq ?_
      refine CS.region ?_
      refine RS.q rfl (QO.fieldAddr fo134_2 (by rfl)) ?_
      refine RS.q rfl (QO.load ty3 (by rfl) (by repeat (first | exact List.Mem.head _ | refine List.Mem.tail _ ?_)) (by rfl)) ?_
      refine RS.q rfl (QO.add (by rfl) (by rfl) (by omega) (by omega)) ?_
      refine RS.q rfl (QO.move) ?_
      refine RS.nil ?_
      refine thenC_n ?_
      refine CS.block ?_
      refine CS.loop (X := Nat × Value × HL) (6 :: 11 :: 51 :: 52 :: 53 :: 54 :: 55 :: 56 :: 57 :: 58 :: 59 :: 60 :: 61 :: []) (fun z => [(51, iv (z.1 : Int)), (6, z.2.1)]) (fun z => ⟨g10, 134, [sv e.reel, iv e.kind, iv e.len, iv e.inn, iv e.out, iv e.at_]⟩ :: ⟨g8, 52, [sv tS, iv rS, .slice (some ⟨bA, oA, none⟩) lS.length cS]⟩ :: ⟨g24, 52, [sv t, iv r, .slice A a.length c, sv t2, iv r2, .slice A2 b.length c2]⟩ :: ⟨g3, 52, [sv t2, iv r2, .slice A2 b.length c2]⟩ :: ⟨g2, 52, [sv t, iv r, .slice A a.length c]⟩ :: z.2.2) (fun z => z.1 ≤ (e.len + 1).toNat ∧ Row 3 1 z.2.1 ((RM a b s ++ rkL lS k) ++ rkD e z.1).length (((RM a b s ++ rkL lS k) ++ rkD e z.1).map (Value.int .i64)) z.2.2) (fun z => (e.len + 1).toNat - z.1) (0, v47, H47) ⟨Nat.zero_le _, by rw [List.length_append, List.map_append]; exact hrow47⟩ ?_ ?_ ?_
      · exact kn_cons (by rfl) (kn_cons (by rfl) kn_nil)
      · exact (by repeat (first | exact List.Sublist.refl _ | exact List.nil_sublist _ | refine List.Sublist.cons_cons _ ?_ | refine List.Sublist.cons _ ?_ | exact Sbp.refl | exact Sbp.nil | refine Sbp.cons (by repeat (first | exact Rem.head | apply Rem.tail)) ?_ | exact Sbp.app | refine Sbp.skip ?_))
      intro z gj12 hz
      clear hrow hrow47
      obtain ⟨q, vo, Hr⟩ := z
      obtain ⟨hq, hrow⟩ := hz
      simp only at hq hrow
      have hbl2 : ((RM a b s ++ rkL lS k) ++ rkD e q).length ≤ 500000 := by rw [List.length_append, rkD_len]; omega
      show CS _ _ _ _ _ (puts (mix _ _ _) [(51, iv (q : Int)), (6, vo)]) (⟨g10, 134, [sv e.reel, iv e.kind, iv e.len, iv e.inn, iv e.out, iv e.at_]⟩ :: ⟨g8, 52, [sv tS, iv rS, .slice (some ⟨bA, oA, none⟩) lS.length cS]⟩ :: ⟨g24, 52, [sv t, iv r, .slice A a.length c, sv t2, iv r2, .slice A2 b.length c2]⟩ :: ⟨g3, 52, [sv t2, iv r2, .slice A2 b.length c2]⟩ :: ⟨g2, 52, [sv t, iv r, .slice A a.length c]⟩ :: Hr)
      refine CS.seq ?_
      refine CS.region ?_
      refine RS.q rfl (QO.lss (by rfl) (by rfl)) ?_
      refine RS.nil ?_
      refine thenC_n ?_
      refine CS.seq ?_
      refine CS.cond (by rfl) (fun hb2 => ?_) (fun hb2 => ?_)
      · have hb2p := of_decide_eq_true hb2
        refine CS.skip ?_
        refine thenC_n ?_
        refine CS.seq ?_
        refine CS.block ?_
        refine CS.seq ?_
        refine CS.region ?_
        refine RS.q rfl (QO.move) ?_
        refine RS.q rfl (QO.assign) ?_
        refine RS.nil ?_
        refine thenC_n ?_
        refine CS.region ?_
        refine RS.q rfl (QO.move) ?_
        refine RS.q rfl (QO.fieldAddr fo134_5 (by rfl)) ?_
        refine RS.q rfl (QO.load ty3 (by rfl) (by repeat (first | exact List.Mem.head _ | refine List.Mem.tail _ ?_)) (by rfl)) ?_
        refine RS.q rfl (QO.move) ?_
        refine RS.q rfl (QO.add (by rfl) (by rfl) (by omega) (by omega)) ?_
        refine RS.buildSlice rfl Tryd.underlying22 ty3 (by decide) (by decide) (by rfl) (by rfl) ?_
        intro g59
        refine RS.appendRow rfl Tryd.underlying22 ty3 (by rfl) hrow (by repeat (first | exact Suf.base | apply Suf.cons)) (by rfl) (Src.blk (by repeat (first | exact List.Mem.head _ | refine List.Mem.tail _ ?_))) (by rfl) (by rfl) (by decide) (by decide) (by unfold maxLen; omega) (by omega) ?_
        intro v60 H60 hrow60
        refine RS.q rfl (QO.assign) ?_
        refine RS.nil ?_
        refine blockC_n ?_
        refine thenC_n ?_
        refine CS.region ?_
        refine RS.q rfl (QO.add (by rfl) (by rfl) (by omega) (by omega)) ?_
        refine RS.q rfl (QO.move) ?_
        refine RS.nil ?_
        refine loopQ_n (by intro t ht; repeat (first | with_reducible exact rfl | exact frame_puts ht (frame_mix ht) _ rfl | (refine frame_put rfl ht ?_) | (refine frame_puts ht ?_ _ rfl) | exact frame_mix ht | (refine frame_mix2 rfl ht ?_) | exact rfl)) ?_
        exact ⟨(q + 1, v60, H60), ⟨by show q + 1 ≤ (e.len + 1).toNat; omega, by show Row 3 1 v60 ((RM a b s ++ rkL lS k) ++ rkD e (q + 1)).length (((RM a b s ++ rkL lS k) ++ rkD e (q + 1)).map (Value.int .i64)) H60; rw [← rkD_succ, ← List.append_assoc, List.length_append (bs := [_]), List.map_append (l₂ := [_])]; exact hrow60⟩, by show (e.len + 1).toNat - (q + 1) < (e.len + 1).toNat - q; omega, kn_cons (by rfl) (kn_cons (by rfl) kn_nil), (by repeat (first | exact List.Sublist.refl _ | exact List.nil_sublist _ | refine List.Sublist.cons_cons _ ?_ | refine List.Sublist.cons _ ?_ | exact Sbp.refl | exact Sbp.nil | refine Sbp.cons (by repeat (first | exact Rem.head | apply Rem.tail)) ?_ | exact Sbp.app | refine Sbp.skip ?_))⟩
      have hb2p := of_decide_eq_false hb2
      refine CS.exit ?_
      refine thenC_x ?_
      refine loopQ_x ?_
      refine blockC_x ?_
      refine blockC_n ?_
      refine thenC_n ?_
      refine CS.region ?_
      refine RS.q rfl (QO.add (by rfl) (by rfl) (by omega) (by omega)) ?_
      refine RS.q rfl (QO.move) ?_
      refine RS.nil ?_
      refine loopQ_n (by intro t ht; repeat (first | with_reducible exact rfl | exact frame_puts ht (frame_mix ht) _ rfl | (refine frame_put rfl ht ?_) | (refine frame_puts ht ?_ _ rfl) | exact frame_mix ht | (refine frame_mix2 rfl ht ?_) | exact rfl)) ?_
      have hqe : q = (e.len + 1).toNat := by omega
      rw [hqe] at hrow
      exact ⟨(k + 1, vo, Hr), ⟨by show k + 1 ≤ lS.length; omega, by show Row 3 1 vo (RM a b s ++ (rkL lS k ++ rkP (lS.getD k default))).length ((RM a b s ++ (rkL lS k ++ rkP (lS.getD k default))).map (Value.int .i64)) Hr; rw [he, ← List.append_assoc]; exact hrow⟩, by show lS.length - (k + 1) < lS.length - k; omega, kn_cons (by rfl) (kn_cons (congrArg iv (by show max (enK lS (LS a b s) k) (evEnd e) = max (enK lS (LS a b s) k) (evEnd (lS.getD k default)); rw [he])) (kn_cons (by rfl) kn_nil)), (by repeat (first | exact List.Sublist.refl _ | exact List.nil_sublist _ | refine List.Sublist.cons_cons _ ?_ | refine List.Sublist.cons _ ?_ | exact Sbp.refl | exact Sbp.nil | refine Sbp.cons (by repeat (first | exact Rem.head | apply Rem.tail)) ?_ | exact Sbp.app | refine Sbp.skip ?_))⟩
    have hb1p := of_decide_eq_false hb1
    refine CS.exit ?_
    refine thenC_x ?_
    refine loopQ_x ?_
    refine blockC_x ?_
    refine blockC_n ?_
    refine thenC_n ?_
    refine CS.region ?_
    refine RS.q rfl (QO.add (by rfl) (by rfl) (by omega) (by omega)) ?_
    refine RS.q rfl (QO.move) ?_
    refine RS.nil ?_
    refine loopQ_n (by intro t ht; repeat (first | with_reducible exact rfl | exact frame_puts ht (frame_mix ht) _ rfl | (refine frame_put rfl ht ?_) | (refine frame_puts ht ?_ _ rfl) | exact frame_mix ht | (refine frame_mix2 rfl ht ?_) | exact rfl)) ?_
    have hke : k = lS.length := by omega
    rw [hke] at hrow
    exact ⟨(s + 1, vo, Hr), ⟨by show s + 1 ≤ 2; omega, by show Row 3 1 vo (RM a b s ++ rkL (T2 a b s) (T2 a b s).length).length ((RM a b s ++ rkL (T2 a b s) (T2 a b s).length).map (Value.int .i64)) Hr; rw [hTS]; exact hrow⟩, by show 2 - (s + 1) < 2 - s; omega, kn_cons (by rfl) (kn_cons (congrArg iv (by show enK lS (LS a b s) k = enK (T2 a b s) (LS a b s) (T2 a b s).length; rw [hTS, hke])) (kn_cons (by rfl) kn_nil)), (by repeat (first | exact List.Sublist.refl _ | exact List.nil_sublist _ | refine List.Sublist.cons_cons _ ?_ | refine List.Sublist.cons _ ?_ | exact Sbp.refl | exact Sbp.nil | refine Sbp.cons (by repeat (first | exact Rem.head | apply Rem.tail)) ?_ | exact Sbp.app | refine Sbp.skip ?_))⟩
  have hb0p := of_decide_eq_false hb0
  refine CS.exit ?_
  refine thenC_x ?_
  refine loopQ_x ?_
  refine blockC_x ?_
  refine thenC_n ?_
  refine CS.seq ?_
  refine CS.region ?_
  have hP0 := RM_zero a b s
  have hPp : 0 < (RM a b s).length := List.length_pos_of_mem hP0
  have hs22 : s = 2 := by omega
  have hnn2 : ∀ x ∈ (SD (RM a b s)), 0 ≤ x := by rw [hs22]; exact hnn
  have hla8 : LS a b s ≤ (SD (RM a b s)).getD ((SD (RM a b s)).length - 1) 0 := by rw [hs22]; exact hla9
  have hx := hrow.some hPp
  obtain ⟨gm, cap, junk, hv9, hH9, hcap, hcm, hxl⟩ := hx
  subst hv9
  subst hH9
  refine RS.q rfl (QO.move) ?_
  refine RS.callH (⟨gm, 3, (RM a b s).map (Value.int .i64) ++ junk⟩ :: [⟨g3, 52, [sv t2, iv r2, .slice A2 b.length c2]⟩, ⟨g2, 52, [sv t, iv r, .slice A a.length c]⟩]) rfl (by rfl) ok98 (by rfl) (by repeat (first | exact List.Sublist.refl _ | exact List.nil_sublist _ | refine List.Sublist.cons_cons _ ?_ | refine List.Sublist.cons _ ?_ | exact Sbp.refl | exact Sbp.nil | refine Sbp.cons (by repeat (first | exact Rem.head | apply Rem.tail)) ?_ | exact Sbp.app | refine Sbp.skip ?_)) (fun w ho => sortI gm cap (RM a b s) junk [⟨g3, 52, [sv t2, iv r2, .slice A2 b.length c2]⟩, ⟨g2, 52, [sv t, iv r, .slice A a.length c]⟩] _ 3 (by omega)) ?_
  rintro _ _ ⟨rfl, rfl⟩
  refine RS.nil ?_
  refine thenC_n ?_
  refine CS.seq ?_
  refine CS.region ?_
  refine RS.q rfl (QO.move) ?_
  refine RS.callH (⟨gm, 3, (srt (RM a b s)).map (Value.int .i64) ++ junk⟩ :: [⟨g3, 52, [sv t2, iv r2, .slice A2 b.length c2]⟩, ⟨g2, 52, [sv t, iv r, .slice A a.length c]⟩]) rfl (by rfl) ok99 (by rfl) (by repeat (first | exact List.Sublist.refl _ | exact List.nil_sublist _ | refine List.Sublist.cons_cons _ ?_ | refine List.Sublist.cons _ ?_ | exact Sbp.refl | exact Sbp.nil | refine Sbp.cons (by repeat (first | exact Rem.head | apply Rem.tail)) ?_ | exact Sbp.app | refine Sbp.skip ?_)) (fun w ho => compactSD gm cap (RM a b s) junk [⟨g3, 52, [sv t2, iv r2, .slice A2 b.length c2]⟩, ⟨g2, 52, [sv t, iv r, .slice A a.length c]⟩] _ 3 (by omega) hcap) ?_
  rintro _ _ ⟨rfl, rfl⟩
  refine RS.q rfl (QO.assign) ?_
  refine RS.nil ?_
  refine thenC_n ?_
  refine CS.seq ?_
  refine CS.region ?_
  refine RS.q rfl (QO.assign) ?_
  refine RS.nil ?_
  refine thenC_n ?_
  refine CS.seq ?_
  refine CS.seq ?_
  refine CS.region ?_
  refine RS.q rfl (QO.move) ?_
  refine RS.q rfl (QO.lenS Tryd.underlying22 (by rfl)) ?_
  refine RS.q rfl (QO.move) ?_
  refine RS.nil ?_
  refine thenC_n ?_
  refine CS.block ?_
  have hS1 : 0 + 1 ≤ (SD (RM a b s)).length := SD_ne hP0
  have hSl := SD_le (RM a b s)
  clear hrow
  refine CS.loop (X := Nat × Value × HL) (12 :: 13 :: 14 :: 15 :: 16 :: 17 :: 18 :: 19 :: 20 :: 70 :: 71 :: 72 :: 73 :: 74 :: 75 :: 76 :: 77 :: 78 :: 79 :: 80 :: 81 :: 82 :: 83 :: 84 :: 85 :: 86 :: 87 :: 88 :: 89 :: 90 :: 91 :: 92 :: 93 :: 94 :: 95 :: 96 :: 97 :: 98 :: 99 :: 100 :: 101 :: 102 :: 103 :: 104 :: 105 :: 106 :: 107 :: 108 :: 109 :: 110 :: 111 :: 112 :: 113 :: 114 :: 115 :: 116 :: 117 :: 118 :: 119 :: 120 :: 121 :: 122 :: 123 :: 124 :: 125 :: 126 :: 127 :: 128 :: 129 :: 130 :: 131 :: 132 :: 133 :: 134 :: 135 :: 136 :: 137 :: 138 :: 139 :: 140 :: 141 :: []) (fun z => [(70, iv (z.1 : Int)), (12, z.2.1)]) (fun z => ⟨gm, 3, ((SD (RM a b s)) ++ List.replicate ((RM a b s).length - (SD (RM a b s)).length) 0).map (Value.int .i64) ++ junk⟩ :: ⟨g3, 52, [sv t2, iv r2, .slice A2 b.length c2]⟩ :: ⟨g2, 52, [sv t, iv r, .slice A a.length c]⟩ :: z.2.2) (fun z => z.1 ≤ (SD (RM a b s)).length ∧ Row 77 2 z.2.1 (rngs (alk a b) (SD (RM a b s)) (min z.1 ((SD (RM a b s)).length - 1))).length (rgC (rngs (alk a b) (SD (RM a b s)) (min z.1 ((SD (RM a b s)).length - 1)))) z.2.2) (fun z => (SD (RM a b s)).length - z.1) (0, .slice none 0 0, []) ⟨Nat.zero_le _, by rw [show min 0 ((SD (RM a b s)).length - 1) = 0 by omega]; exact .nil⟩ ?_ ?_ ?_
  · exact kn_cons (by rfl) (kn_cons (by rfl) kn_nil)
  · exact (by repeat (first | exact List.Sublist.refl _ | exact List.nil_sublist _ | refine List.Sublist.cons_cons _ ?_ | refine List.Sublist.cons _ ?_ | exact Sbp.refl | exact Sbp.nil | refine Sbp.cons (by repeat (first | exact Rem.head | apply Rem.tail)) ?_ | exact Sbp.app | refine Sbp.skip ?_))
  intro z gj22 hz
  obtain ⟨k, vo, Hr⟩ := z
  obtain ⟨hk, hrow⟩ := hz
  simp only at hk hrow
  have hxj : ∃ j, min k ((SD (RM a b s)).length - 1) = j := ⟨_, rfl⟩
  obtain ⟨j, hj⟩ := hxj
  rw [hj] at hrow
  have hx := hrow.slice
  obtain ⟨Ao, co, hvo, hco1, hco2⟩ := hx
  subst hvo
  have hol := rngs_len (alk a b) (SD (RM a b s)) j
  show CS _ _ _ _ _ (puts (mix _ _ _) [(70, iv (k : Int)), (12, (.slice Ao (rngs (alk a b) (SD (RM a b s)) j).length co))]) (⟨gm, 3, ((SD (RM a b s)) ++ List.replicate ((RM a b s).length - (SD (RM a b s)).length) 0).map (Value.int .i64) ++ junk⟩ :: ⟨g3, 52, [sv t2, iv r2, .slice A2 b.length c2]⟩ :: ⟨g2, 52, [sv t, iv r, .slice A a.length c]⟩ :: Hr)
  refine CS.seq ?_
  refine CS.region ?_
  refine RS.q rfl (QO.lss (by rfl) (by rfl)) ?_
  refine RS.nil ?_
  refine thenC_n ?_
  refine CS.seq ?_
  refine CS.cond (by rfl) (fun hb3 => ?_) (fun hb3 => ?_)
  · have hb3p := of_decide_eq_true hb3
    refine CS.skip ?_
    refine thenC_n ?_
    refine CS.seq ?_
    refine CS.block ?_
    refine CS.seq ?_
    refine CS.region ?_
    refine RS.q rfl (QO.move) ?_
    refine RS.q rfl (QO.idx0 Tryd.underlying22 ty3 (by rfl) (by rfl) (by rfl) (by omega)) ?_
    refine RS.q rfl (QO.load ty3 (by rfl) (by repeat (first | exact List.Mem.head _ | refine List.Mem.tail _ ?_)) (sd_cell (k := k) (by omega))) ?_
    refine RS.q rfl (QO.assign) ?_
    refine RS.q rfl (QO.assign) ?_
    refine RS.nil ?_
    refine thenC_n ?_
    refine CS.seq ?_
    refine CS.region ?_
    refine RS.q rfl (QO.move) ?_
    refine RS.q rfl (QO.assign) ?_
    refine RS.nil ?_
    refine thenC_n ?_
    refine CS.seq ?_
    refine CS.seq ?_
    by_cases hsp25 : k + 1 < (SD (RM a b s)).length
    · refine CS.region ?_
      have hlt := sd_lt (SD_lt (RM a b s)) k hsp25
      have hSk0 := hnn2 ((SD (RM a b s)).getD k 0) (getD_mem (by omega))
      refine RS.q rfl (QO.move) ?_
      refine RS.qv rfl (QO.add (by rfl) (by rfl) (by omega) (by omega)) (congrArg iv (show (k : Int) + 1 = ((k + 1 : Nat) : Int) by omega)) ?_
      refine RS.q rfl (QO.move) ?_
      refine RS.q rfl (QO.lenS Tryd.underlying22 (by rfl)) ?_
      refine RS.q rfl (QO.lss (by rfl) (by rfl)) ?_
      refine RS.nil ?_
      refine thenC_n ?_
      refine CS.condT (by rfl) (decide_eq_true (by omega)) ?_
      refine CS.region ?_
      refine RS.q rfl (QO.move) ?_
      refine RS.q rfl (QO.move) ?_
      refine RS.qv rfl (QO.add (by rfl) (by rfl) (by omega) (by omega)) (congrArg iv (show (k : Int) + 1 = ((k + 1 : Nat) : Int) by omega)) ?_
      refine RS.q rfl (QO.idx0 Tryd.underlying22 ty3 (by rfl) (by rfl) (by rfl) (by omega)) ?_
      refine RS.q rfl (QO.load ty3 (by rfl) (by repeat (first | exact List.Mem.head _ | refine List.Mem.tail _ ?_)) (sd_cell (k := k + 1) (by omega))) ?_
      refine RS.q rfl (QO.assign) ?_
      refine RS.nil ?_
      refine thenC_n ?_
      refine CS.seq ?_
      refine CS.seq ?_
      refine CS.region ?_
      refine RS.q rfl (QO.move) ?_
      refine RS.q rfl (QO.move) ?_
      refine RS.q rfl (QO.geq (by rfl) (by rfl)) ?_
      refine RS.nil ?_
      refine thenC_n ?_
      refine CS.condF (by rfl) (decide_eq_false (by omega)) ?_
      refine CS.skip ?_
      refine thenC_n ?_
      refine CS.seq ?_
      refine CS.region ?_
      refine RS.q rfl (QO.loadB ty52 (by rfl) (by repeat (first | exact List.Mem.head _ | refine List.Mem.tail _ ?_)) (by rfl)) ?_
      refine RS.q rfl (QO.move) ?_
      refine RS.call rfl (by rfl) ok44 (by rfl) (fun w ho => rat1 t r A a.length c a ((SD (RM a b s)).getD k 0) _ rfl (hA.own ho) hEa hm hSk0) ?_
      intro v92 H92 h92
      have hx92 : ∃ i92 s92 e92, atR a ((SD (RM a b s)).getD k 0) = (i92, s92, e92) := ⟨_, _, _, rfl⟩
      obtain ⟨i92, s92, e92, hR92⟩ := hx92
      rw [hR92] at h92
      have hn92 := share_pos hEa ((SD (RM a b s)).getD k 0)
      rw [hR92] at hn92
      have h92 : v92 = .tuple #[.agg #[iv (i92 : Nat), sv s92.reel, iv s92.frame, sv s92.back, iv s92.bf, flt s92.share], iv e92] ∧ H92 = [] := h92
      obtain ⟨rfl, rfl⟩ := h92
      refine RS.q rfl (QO.move) ?_
      refine RS.q rfl (QO.extract (by rfl) (by rfl)) ?_
      refine RS.q rfl (QO.extract (by rfl) (by rfl)) ?_
      refine RS.alloc rfl ty82 ?_
      intro g16
      refine RS.storeB ty82 (by rfl) (by rfl) (by rfl) (by rfl) (by rfl) (by repeat (first | exact Upd.head | apply Upd.tail)) (by rfl) ?_
      refine RS.q rfl (QO.assign) ?_
      refine RS.nil ?_
      refine thenC_n ?_
      refine CS.seq ?_
      refine CS.region ?_
      refine RS.q rfl (QO.loadB ty52 (by rfl) (by repeat (first | exact List.Mem.head _ | refine List.Mem.tail _ ?_)) (by rfl)) ?_
      refine RS.q rfl (QO.move) ?_
      refine RS.call rfl (by rfl) ok44 (by rfl) (fun w ho => rat1 t2 r2 A2 b.length c2 b ((SD (RM a b s)).getD k 0) _ rfl (hA2.own ho) hEb hm2 hSk0) ?_
      intro v98 H98 h98
      have hx98 : ∃ i98 s98 e98, atR b ((SD (RM a b s)).getD k 0) = (i98, s98, e98) := ⟨_, _, _, rfl⟩
      obtain ⟨i98, s98, e98, hR98⟩ := hx98
      rw [hR98] at h98
      have hn98 := share_pos hEb ((SD (RM a b s)).getD k 0)
      rw [hR98] at hn98
      have h98 : v98 = .tuple #[.agg #[iv (i98 : Nat), sv s98.reel, iv s98.frame, sv s98.back, iv s98.bf, flt s98.share], iv e98] ∧ H98 = [] := h98
      obtain ⟨rfl, rfl⟩ := h98
      refine RS.q rfl (QO.move) ?_
      refine RS.q rfl (QO.extract (by rfl) (by rfl)) ?_
      refine RS.q rfl (QO.extract (by rfl) (by rfl)) ?_
      refine RS.alloc rfl ty82 ?_
      intro g18
      refine RS.storeB ty82 (by rfl) (by rfl) (by rfl) (by rfl) (by rfl) (by repeat (first | exact Upd.head | apply Upd.tail)) (by rfl) ?_
      refine RS.q rfl (QO.assign) ?_
      refine RS.nil ?_
      refine thenC_n ?_
      refine CS.seq ?_
      refine CS.region ?_
      refine RS.q rfl (QO.fieldAddr fo82_0 (by rfl)) ?_
      refine RS.store1 ty3 rfl (by rfl) (by rfl) (by rfl) (by repeat (first | exact Upd.head | apply Upd.tail)) (by first | (simp; done) | (simp; omega) | omega) ?_
      refine RS.q rfl (QO.fieldAddr fo82_0 (by rfl)) ?_
      refine RS.store1 ty3 rfl (by rfl) (by rfl) (by rfl) (by repeat (first | exact Upd.head | apply Upd.tail)) (by first | (simp; done) | (simp; omega) | omega) ?_
      refine RS.nil ?_
      refine thenC_n ?_
      refine CS.seq ?_
      refine CS.seq ?_
      refine CS.region ?_
      refine RS.q rfl (QO.move) ?_
      refine RS.q rfl (QO.move) ?_
      refine RS.q rfl (QO.eql (by rfl) (by rfl)) ?_
      refine RS.q rfl (QO.move) ?_
      refine RS.split (dj := 106) (by rfl) (fun hb4 => ?_) (fun hb4 => ?_)
      · have hb4p := eq_of_beq hb4
        refine RS.on (dj := 106) rfl (congrArg Value.bool hb4) ?_
        refine RS.q rfl (QO.move) ?_
        refine RS.on (dj := 106) rfl (congrArg Value.bool hb4) ?_
        refine RS.q rfl (QO.neq (by rfl) (by rfl)) ?_
        refine RS.on (dj := 106) rfl (congrArg Value.bool hb4) ?_
        refine RS.q rfl (QO.move) ?_
        refine RS.split (dj := 109) (by rfl) (fun hb5 => ?_) (fun hb5 => ?_)
        · have hb5p := bne_iff_ne.1 hb5
          refine RS.off (dj := 109) rfl (.inl (congrArg Value.bool hb5)) (fun _ => rfl) rfl ?_
          refine RS.off (dj := 109) rfl (.inl (congrArg Value.bool hb5)) (fun _ => rfl) rfl ?_
          refine RS.off (dj := 109) rfl (.inl (congrArg Value.bool hb5)) (fun _ => rfl) rfl ?_
          refine RS.on (dj := 106) rfl (congrArg Value.bool hb4) ?_
          refine RS.q rfl (QO.pickT (by rfl) hb5 (by rfl)) ?_
          refine RS.q rfl (QO.pickT (by rfl) hb4 (by rfl)) ?_
          refine RS.nil ?_
          refine thenC_n ?_
          refine CS.condT (by rfl) rfl ?_
          refine CS.exit ?_
          refine thenC_x ?_
          refine blockC_x ?_
          refine thenC_n ?_
          refine CS.region ?_
          refine RS.q rfl (QO.add (by rfl) (by rfl) (by omega) (by omega)) ?_
          refine RS.q rfl (QO.move) ?_
          refine RS.nil ?_
          refine loopQ_n (by intro t ht; repeat (first | with_reducible exact rfl | exact frame_puts ht (frame_mix ht) _ rfl | (refine frame_put rfl ht ?_) | (refine frame_puts ht ?_ _ rfl) | exact frame_mix ht | (refine frame_mix2 rfl ht ?_) | exact rfl)) ?_
          exact ⟨(k + 1, (.slice Ao (rngs (alk a b) (SD (RM a b s)) j).length co), Hr), ⟨by show k + 1 ≤ (SD (RM a b s)).length; omega, by
              have hjk : k = j := by omega
              subst hjk
              show Row 77 2 _ (rngs (alk a b) (SD (RM a b s)) (min (k + 1) ((SD (RM a b s)).length - 1))).length (rgC (rngs (alk a b) (SD (RM a b s)) (min (k + 1) ((SD (RM a b s)).length - 1)))) _
              rw [show min (k + 1) ((SD (RM a b s)).length - 1) = k + 1 by omega]
              show Row 77 2 _ (stepR (rngs (alk a b) (SD (RM a b s)) k) ((SD (RM a b s)).getD k 0) ((SD (RM a b s)).getD (k + 1) 0) (alk a b ((SD (RM a b s)).getD k 0))).length (rgC (stepR (rngs (alk a b) (SD (RM a b s)) k) ((SD (RM a b s)).getD k 0) ((SD (RM a b s)).getD (k + 1) 0) (alk a b ((SD (RM a b s)).getD k 0)))) _
              rw [step_T (by first | assumption | exact (alk_n hR92 hR98 (by assumption) (by assumption)).symm)]; exact hrow⟩, by show (SD (RM a b s)).length - (k + 1) < (SD (RM a b s)).length - k; omega, kn_cons (by rfl) (kn_cons (by rfl) kn_nil), (by repeat (first | exact List.Sublist.refl _ | exact List.nil_sublist _ | refine List.Sublist.cons_cons _ ?_ | refine List.Sublist.cons _ ?_ | exact Sbp.refl | exact Sbp.nil | refine Sbp.cons (by repeat (first | exact Rem.head | apply Rem.tail)) ?_ | exact Sbp.app | refine Sbp.skip ?_))⟩
        have hb5p := of_bne_false hb5
        refine RS.on (dj := 109) rfl (congrArg Value.bool hb5) ?_
        refine RS.q rfl (QO.loadB ty82 (by rfl) (by repeat (first | exact List.Mem.head _ | refine List.Mem.tail _ ?_)) (by rfl)) ?_
        refine RS.on (dj := 109) rfl (congrArg Value.bool hb5) ?_
        refine RS.q rfl (QO.loadB ty82 (by rfl) (by repeat (first | exact List.Mem.head _ | refine List.Mem.tail _ ?_)) (by rfl)) ?_
        refine RS.on (dj := 109) rfl (congrArg Value.bool hb5) ?_
        refine RS.qv rfl (QO.seqlM (fdS s92) (fdS s98) mix82 (by rfl) (by rfl) rfl rfl) (congrArg Value.bool (alk_d hR92 hR98 (by assumption) hn92 hn98)) ?_
        refine RS.on (dj := 106) rfl (congrArg Value.bool hb4) ?_
        refine RS.q rfl (QO.pickF (by rfl) hb5 (by rfl)) ?_
        refine RS.q rfl (QO.pickT (by rfl) hb4 (by rfl)) ?_
        refine RS.nil ?_
        refine thenC_n ?_
        refine CS.cond (by rfl) (fun hb6 => ?_) (fun hb6 => ?_)
        · refine CS.exit ?_
          refine thenC_x ?_
          refine blockC_x ?_
          refine thenC_n ?_
          refine CS.region ?_
          refine RS.q rfl (QO.add (by rfl) (by rfl) (by omega) (by omega)) ?_
          refine RS.q rfl (QO.move) ?_
          refine RS.nil ?_
          refine loopQ_n (by intro t ht; repeat (first | with_reducible exact rfl | exact frame_puts ht (frame_mix ht) _ rfl | (refine frame_put rfl ht ?_) | (refine frame_puts ht ?_ _ rfl) | exact frame_mix ht | (refine frame_mix2 rfl ht ?_) | exact rfl)) ?_
          exact ⟨(k + 1, (.slice Ao (rngs (alk a b) (SD (RM a b s)) j).length co), Hr), ⟨by show k + 1 ≤ (SD (RM a b s)).length; omega, by
              have hjk : k = j := by omega
              subst hjk
              show Row 77 2 _ (rngs (alk a b) (SD (RM a b s)) (min (k + 1) ((SD (RM a b s)).length - 1))).length (rgC (rngs (alk a b) (SD (RM a b s)) (min (k + 1) ((SD (RM a b s)).length - 1)))) _
              rw [show min (k + 1) ((SD (RM a b s)).length - 1) = k + 1 by omega]
              show Row 77 2 _ (stepR (rngs (alk a b) (SD (RM a b s)) k) ((SD (RM a b s)).getD k 0) ((SD (RM a b s)).getD (k + 1) 0) (alk a b ((SD (RM a b s)).getD k 0))).length (rgC (stepR (rngs (alk a b) (SD (RM a b s)) k) ((SD (RM a b s)).getD k 0) ((SD (RM a b s)).getD (k + 1) 0) (alk a b ((SD (RM a b s)).getD k 0)))) _
              rw [step_T (by first | assumption | exact (alk_n hR92 hR98 (by assumption) (by assumption)).symm)]; exact hrow⟩, by show (SD (RM a b s)).length - (k + 1) < (SD (RM a b s)).length - k; omega, kn_cons (by rfl) (kn_cons (by rfl) kn_nil), (by repeat (first | exact List.Sublist.refl _ | exact List.nil_sublist _ | refine List.Sublist.cons_cons _ ?_ | refine List.Sublist.cons _ ?_ | exact Sbp.refl | exact Sbp.nil | refine Sbp.cons (by repeat (first | exact Rem.head | apply Rem.tail)) ?_ | exact Sbp.app | refine Sbp.skip ?_))⟩
        refine CS.skip ?_
        refine thenC_n ?_
        refine CS.seq ?_
        refine CS.region ?_
        refine RS.q rfl (QO.move) ?_
        refine RS.q rfl (QO.lenS Tryd.underlying71 (by rfl)) ?_
        refine RS.q rfl (QO.assign) ?_
        refine RS.nil ?_
        refine thenC_n ?_
        refine CS.seq ?_
        by_cases hsp33 : (rngs (alk a b) (SD (RM a b s)) j).length = 0
        · refine CS.region ?_
          refine RS.q rfl (QO.move) ?_
          refine RS.q rfl (QO.gtr (by rfl) (by rfl)) ?_
          refine RS.q rfl (QO.move) ?_
          refine RS.off (dj := 119) rfl (.inl (congrArg Value.bool (decide_eq_false (by omega)))) (fun _ => rfl) rfl ?_
          refine RS.off (dj := 119) rfl (.inl (congrArg Value.bool (decide_eq_false (by omega)))) (fun _ => rfl) rfl ?_
          refine RS.off (dj := 119) rfl (.inl (congrArg Value.bool (decide_eq_false (by omega)))) (fun _ => rfl) rfl ?_
          refine RS.off (dj := 119) rfl (.inl (congrArg Value.bool (decide_eq_false (by omega)))) (fun _ => rfl) rfl ?_
          refine RS.off (dj := 119) rfl (.inl (congrArg Value.bool (decide_eq_false (by omega)))) (fun _ => rfl) rfl ?_
          refine RS.off (dj := 119) rfl (.inl (congrArg Value.bool (decide_eq_false (by omega)))) (fun _ => rfl) rfl ?_
          refine RS.off (dj := 119) rfl (.inl (congrArg Value.bool (decide_eq_false (by omega)))) (fun _ => rfl) rfl ?_
          refine RS.off (dj := 119) rfl (.inl (congrArg Value.bool (decide_eq_false (by omega)))) (fun _ => rfl) rfl ?_
          refine RS.q rfl (QO.pickF (by rfl) (decide_eq_false (by omega)) (by rfl)) ?_
          refine RS.nil ?_
          refine thenC_n ?_
          refine CS.condF (by rfl) rfl ?_
          refine CS.region ?_
          refine RS.q rfl (QO.move) ?_
          refine RS.q rfl (QO.move) ?_
          refine RS.q rfl (QO.move) ?_
          refine RS.q rfl (QO.build ty77 pl77 (by rfl)) ?_
          refine RS.buildSlice rfl Tryd.underlying71 ty77 (by decide) (by decide) (by rfl) (by rfl) ?_
          intro g139
          refine RS.appendRow rfl Tryd.underlying71 ty77 (by rfl) hrow (by repeat (first | exact Suf.base | apply Suf.cons)) (by rfl) (Src.blk (by repeat (first | exact List.Mem.head _ | refine List.Mem.tail _ ?_))) (by rfl) (by rfl) (by decide) (by decide) (by unfold maxLen; omega) (by omega) ?_
          intro v140 H140 hrow140
          refine RS.q rfl (QO.assign) ?_
          refine RS.nil ?_
          refine blockC_n ?_
          refine thenC_n ?_
          refine CS.region ?_
          refine RS.q rfl (QO.add (by rfl) (by rfl) (by omega) (by omega)) ?_
          refine RS.q rfl (QO.move) ?_
          refine RS.nil ?_
          refine loopQ_n (by intro t ht; repeat (first | with_reducible exact rfl | exact frame_puts ht (frame_mix ht) _ rfl | (refine frame_put rfl ht ?_) | (refine frame_puts ht ?_ _ rfl) | exact frame_mix ht | (refine frame_mix2 rfl ht ?_) | exact rfl)) ?_
          exact ⟨(k + 1, v140, H140), ⟨by show k + 1 ≤ (SD (RM a b s)).length; omega, by
              have hjk : k = j := by omega
              subst hjk
              show Row 77 2 _ (rngs (alk a b) (SD (RM a b s)) (min (k + 1) ((SD (RM a b s)).length - 1))).length (rgC (rngs (alk a b) (SD (RM a b s)) (min (k + 1) ((SD (RM a b s)).length - 1)))) _
              rw [show min (k + 1) ((SD (RM a b s)).length - 1) = k + 1 by omega]
              show Row 77 2 _ (stepR (rngs (alk a b) (SD (RM a b s)) k) ((SD (RM a b s)).getD k 0) ((SD (RM a b s)).getD (k + 1) 0) (alk a b ((SD (RM a b s)).getD k 0))).length (rgC (stepR (rngs (alk a b) (SD (RM a b s)) k) ((SD (RM a b s)).getD k 0) ((SD (RM a b s)).getD (k + 1) 0) (alk a b ((SD (RM a b s)).getD k 0)))) _
              rw [step_A (by first | assumption | exact (alk_e hR92 hR98 (by assumption)).symm) (.inl hsp33), rgC_app, List.length_append]; exact hrow140⟩, by show (SD (RM a b s)).length - (k + 1) < (SD (RM a b s)).length - k; omega, kn_cons (by rfl) (kn_cons (by rfl) kn_nil), (by repeat (first | exact List.Sublist.refl _ | exact List.nil_sublist _ | refine List.Sublist.cons_cons _ ?_ | refine List.Sublist.cons _ ?_ | exact Sbp.refl | exact Sbp.nil | refine Sbp.cons (by repeat (first | exact Rem.head | apply Rem.tail)) ?_ | exact Sbp.app | refine Sbp.skip ?_))⟩
        refine CS.region ?_
        have hx := hrow.some2 (by omega)
        obtain ⟨go, cap2, junk2, hvo2, hHo, _, _, _, hjl⟩ := hx
        injection hvo2 with hv1 hv2 hv3
        subst hv1
        subst hv3
        subst hHo
        refine RS.q rfl (QO.move) ?_
        refine RS.q rfl (QO.gtr (by rfl) (by rfl)) ?_
        refine RS.q rfl (QO.move) ?_
        refine RS.on (dj := 119) rfl (congrArg Value.bool (decide_eq_true (by omega))) ?_
        refine RS.q rfl (QO.move) ?_
        refine RS.on (dj := 119) rfl (congrArg Value.bool (decide_eq_true (by omega))) ?_
        refine RS.q rfl (QO.move) ?_
        refine RS.on (dj := 119) rfl (congrArg Value.bool (decide_eq_true (by omega))) ?_
        refine RS.qv rfl (QO.sub (by rfl) (by rfl) (by omega) (by omega)) (congrArg iv (show ((rngs (alk a b) (SD (RM a b s)) j).length : Int) - 1 = (((rngs (alk a b) (SD (RM a b s)) j).length - 1 : Nat) : Int) by omega)) ?_
        refine RS.on (dj := 119) rfl (congrArg Value.bool (decide_eq_true (by omega))) ?_
        refine RS.qv rfl (QO.idx Tryd.underlying71 ty77 (by rfl) (by rfl) (by omega) (by omega)) (congrArg (fun o => Value.pointer (some ⟨go, o, none⟩)) (Nat.zero_add _)) ?_
        refine RS.on (dj := 119) rfl (congrArg Value.bool (decide_eq_true (by omega))) ?_
        refine RS.q rfl (QO.fieldAddr fo77_1 (by rfl)) ?_
        refine RS.on (dj := 119) rfl (congrArg Value.bool (decide_eq_true (by omega))) ?_
        refine RS.q rfl (QO.load ty3 (by rfl) (by repeat (first | exact List.Mem.head _ | refine List.Mem.tail _ ?_)) (rg_cell (by omega))) ?_
        refine RS.on (dj := 119) rfl (congrArg Value.bool (decide_eq_true (by omega))) ?_
        refine RS.q rfl (QO.move) ?_
        refine RS.on (dj := 119) rfl (congrArg Value.bool (decide_eq_true (by omega))) ?_
        refine RS.q rfl (QO.eql (by rfl) (by rfl)) ?_
        refine RS.q rfl (QO.pickT (by rfl) (decide_eq_true (by omega)) (by rfl)) ?_
        refine RS.nil ?_
        refine thenC_n ?_
        refine CS.cond (by rfl) (fun hb7 => ?_) (fun hb7 => ?_)
        · have hb7p := eq_of_beq hb7
          refine CS.region ?_
          refine RS.q rfl (QO.move) ?_
          refine RS.q rfl (QO.move) ?_
          refine RS.qv rfl (QO.sub (by rfl) (by rfl) (by omega) (by omega)) (congrArg iv (show ((rngs (alk a b) (SD (RM a b s)) j).length : Int) - 1 = (((rngs (alk a b) (SD (RM a b s)) j).length - 1 : Nat) : Int) by omega)) ?_
          refine RS.q rfl (QO.move) ?_
          refine RS.qv rfl (QO.idx Tryd.underlying71 ty77 (by rfl) (by rfl) (by omega) (by omega)) (congrArg (fun o => Value.pointer (some ⟨go, o, none⟩)) (Nat.zero_add _)) ?_
          refine RS.q rfl (QO.fieldAddr fo77_1 (by rfl)) ?_
          refine RS.store1e ty3 rfl (by rfl) (by rfl) (by rfl) (rg_set hsp33) (by repeat (first | exact Upd.head | apply Upd.tail)) (by rw [List.length_append, rgC_len]; omega) ?_
          refine RS.nil ?_
          refine blockC_n ?_
          refine thenC_n ?_
          refine CS.region ?_
          refine RS.q rfl (QO.add (by rfl) (by rfl) (by omega) (by omega)) ?_
          refine RS.q rfl (QO.move) ?_
          refine RS.nil ?_
          refine loopQ_n (by intro t ht; repeat (first | with_reducible exact rfl | exact frame_puts ht (frame_mix ht) _ rfl | (refine frame_put rfl ht ?_) | (refine frame_puts ht ?_ _ rfl) | exact frame_mix ht | (refine frame_mix2 rfl ht ?_) | exact rfl)) ?_
          exact ⟨(k + 1, (.slice (some ⟨go, 0, none⟩) (rngs (alk a b) (SD (RM a b s)) j).length co), [⟨go, 77, rgC ((rngs (alk a b) (SD (RM a b s)) j).dropLast ++ [((lastR (rngs (alk a b) (SD (RM a b s)) j)).1, (SD (RM a b s)).getD (k + 1) 0)]) ++ junk2⟩]), ⟨by show k + 1 ≤ (SD (RM a b s)).length; omega, by
              have hjk : k = j := by omega
              subst hjk
              show Row 77 2 _ (rngs (alk a b) (SD (RM a b s)) (min (k + 1) ((SD (RM a b s)).length - 1))).length (rgC (rngs (alk a b) (SD (RM a b s)) (min (k + 1) ((SD (RM a b s)).length - 1)))) _
              rw [show min (k + 1) ((SD (RM a b s)).length - 1) = k + 1 by omega]
              show Row 77 2 _ (stepR (rngs (alk a b) (SD (RM a b s)) k) ((SD (RM a b s)).getD k 0) ((SD (RM a b s)).getD (k + 1) 0) (alk a b ((SD (RM a b s)).getD k 0))).length (rgC (stepR (rngs (alk a b) (SD (RM a b s)) k) ((SD (RM a b s)).getD k 0) ((SD (RM a b s)).getD (k + 1) 0) (alk a b ((SD (RM a b s)).getD k 0)))) _
              rw [step_M (by first | assumption | exact (alk_e hR92 hR98 (by assumption)).symm) hsp33 (by assumption)]; exact row_merge hsp33 hco1 hco2 hjl⟩, by show (SD (RM a b s)).length - (k + 1) < (SD (RM a b s)).length - k; omega, kn_cons (by rfl) (kn_cons (by rfl) kn_nil), (by repeat (first | exact List.Sublist.refl _ | exact List.nil_sublist _ | refine List.Sublist.cons_cons _ ?_ | refine List.Sublist.cons _ ?_ | exact Sbp.refl | exact Sbp.nil | refine Sbp.cons (by repeat (first | exact Rem.head | apply Rem.tail)) ?_ | exact Sbp.app | refine Sbp.skip ?_))⟩
        have hb7p := ne_of_beq_false hb7
        refine CS.region ?_
        refine RS.q rfl (QO.move) ?_
        refine RS.q rfl (QO.move) ?_
        refine RS.q rfl (QO.move) ?_
        refine RS.q rfl (QO.build ty77 pl77 (by rfl)) ?_
        refine RS.buildSlice rfl Tryd.underlying71 ty77 (by decide) (by decide) (by rfl) (by rfl) ?_
        intro g139
        refine RS.appendRow rfl Tryd.underlying71 ty77 (by rfl) hrow (by repeat (first | exact Suf.base | apply Suf.cons)) (by rfl) (Src.blk (by repeat (first | exact List.Mem.head _ | refine List.Mem.tail _ ?_))) (by rfl) (by rfl) (by decide) (by decide) (by unfold maxLen; omega) (by omega) ?_
        intro v140 H140 hrow140
        refine RS.q rfl (QO.assign) ?_
        refine RS.nil ?_
        refine blockC_n ?_
        refine thenC_n ?_
        refine CS.region ?_
        refine RS.q rfl (QO.add (by rfl) (by rfl) (by omega) (by omega)) ?_
        refine RS.q rfl (QO.move) ?_
        refine RS.nil ?_
        refine loopQ_n (by intro t ht; repeat (first | with_reducible exact rfl | exact frame_puts ht (frame_mix ht) _ rfl | (refine frame_put rfl ht ?_) | (refine frame_puts ht ?_ _ rfl) | exact frame_mix ht | (refine frame_mix2 rfl ht ?_) | exact rfl)) ?_
        exact ⟨(k + 1, v140, H140), ⟨by show k + 1 ≤ (SD (RM a b s)).length; omega, by
            have hjk : k = j := by omega
            subst hjk
            show Row 77 2 _ (rngs (alk a b) (SD (RM a b s)) (min (k + 1) ((SD (RM a b s)).length - 1))).length (rgC (rngs (alk a b) (SD (RM a b s)) (min (k + 1) ((SD (RM a b s)).length - 1)))) _
            rw [show min (k + 1) ((SD (RM a b s)).length - 1) = k + 1 by omega]
            show Row 77 2 _ (stepR (rngs (alk a b) (SD (RM a b s)) k) ((SD (RM a b s)).getD k 0) ((SD (RM a b s)).getD (k + 1) 0) (alk a b ((SD (RM a b s)).getD k 0))).length (rgC (stepR (rngs (alk a b) (SD (RM a b s)) k) ((SD (RM a b s)).getD k 0) ((SD (RM a b s)).getD (k + 1) 0) (alk a b ((SD (RM a b s)).getD k 0)))) _
            rw [step_A (by first | assumption | exact (alk_e hR92 hR98 (by assumption)).symm) (.inr (by assumption)), rgC_app, List.length_append]; exact hrow140⟩, by show (SD (RM a b s)).length - (k + 1) < (SD (RM a b s)).length - k; omega, kn_cons (by rfl) (kn_cons (by rfl) kn_nil), (by repeat (first | exact List.Sublist.refl _ | exact List.nil_sublist _ | refine List.Sublist.cons_cons _ ?_ | refine List.Sublist.cons _ ?_ | exact Sbp.refl | exact Sbp.nil | refine Sbp.cons (by repeat (first | exact Rem.head | apply Rem.tail)) ?_ | exact Sbp.app | refine Sbp.skip ?_))⟩
      have hb4p := ne_of_beq_false hb4
      refine RS.off (dj := 106) rfl (.inl (congrArg Value.bool hb4)) (fun _ => rfl) rfl ?_
      refine RS.off (dj := 106) rfl (.inl (congrArg Value.bool hb4)) (fun _ => rfl) rfl ?_
      refine RS.off (dj := 106) rfl (.inl (congrArg Value.bool hb4)) (fun _ => rfl) rfl ?_
      refine RS.off (dj := 109) (c := true) rfl (.inr rfl) (fun h => by cases h) rfl ?_
      refine RS.off (dj := 109) (c := true) rfl (.inr rfl) (fun h => by cases h) rfl ?_
      refine RS.off (dj := 109) (c := true) rfl (.inr rfl) (fun h => by cases h) rfl ?_
      refine RS.off (dj := 106) rfl (.inl (congrArg Value.bool hb4)) (fun _ => rfl) rfl ?_
      refine RS.q rfl (QO.pickF (by rfl) hb4 (by rfl)) ?_
      refine RS.nil ?_
      refine thenC_n ?_
      refine CS.condF (by rfl) rfl ?_
      refine CS.skip ?_
      refine thenC_n ?_
      refine CS.seq ?_
      refine CS.region ?_
      refine RS.q rfl (QO.move) ?_
      refine RS.q rfl (QO.lenS Tryd.underlying71 (by rfl)) ?_
      refine RS.q rfl (QO.assign) ?_
      refine RS.nil ?_
      refine thenC_n ?_
      refine CS.seq ?_
      by_cases hsp33 : (rngs (alk a b) (SD (RM a b s)) j).length = 0
      · refine CS.region ?_
        refine RS.q rfl (QO.move) ?_
        refine RS.q rfl (QO.gtr (by rfl) (by rfl)) ?_
        refine RS.q rfl (QO.move) ?_
        refine RS.off (dj := 119) rfl (.inl (congrArg Value.bool (decide_eq_false (by omega)))) (fun _ => rfl) rfl ?_
        refine RS.off (dj := 119) rfl (.inl (congrArg Value.bool (decide_eq_false (by omega)))) (fun _ => rfl) rfl ?_
        refine RS.off (dj := 119) rfl (.inl (congrArg Value.bool (decide_eq_false (by omega)))) (fun _ => rfl) rfl ?_
        refine RS.off (dj := 119) rfl (.inl (congrArg Value.bool (decide_eq_false (by omega)))) (fun _ => rfl) rfl ?_
        refine RS.off (dj := 119) rfl (.inl (congrArg Value.bool (decide_eq_false (by omega)))) (fun _ => rfl) rfl ?_
        refine RS.off (dj := 119) rfl (.inl (congrArg Value.bool (decide_eq_false (by omega)))) (fun _ => rfl) rfl ?_
        refine RS.off (dj := 119) rfl (.inl (congrArg Value.bool (decide_eq_false (by omega)))) (fun _ => rfl) rfl ?_
        refine RS.off (dj := 119) rfl (.inl (congrArg Value.bool (decide_eq_false (by omega)))) (fun _ => rfl) rfl ?_
        refine RS.q rfl (QO.pickF (by rfl) (decide_eq_false (by omega)) (by rfl)) ?_
        refine RS.nil ?_
        refine thenC_n ?_
        refine CS.condF (by rfl) rfl ?_
        refine CS.region ?_
        refine RS.q rfl (QO.move) ?_
        refine RS.q rfl (QO.move) ?_
        refine RS.q rfl (QO.move) ?_
        refine RS.q rfl (QO.build ty77 pl77 (by rfl)) ?_
        refine RS.buildSlice rfl Tryd.underlying71 ty77 (by decide) (by decide) (by rfl) (by rfl) ?_
        intro g139
        refine RS.appendRow rfl Tryd.underlying71 ty77 (by rfl) hrow (by repeat (first | exact Suf.base | apply Suf.cons)) (by rfl) (Src.blk (by repeat (first | exact List.Mem.head _ | refine List.Mem.tail _ ?_))) (by rfl) (by rfl) (by decide) (by decide) (by unfold maxLen; omega) (by omega) ?_
        intro v140 H140 hrow140
        refine RS.q rfl (QO.assign) ?_
        refine RS.nil ?_
        refine blockC_n ?_
        refine thenC_n ?_
        refine CS.region ?_
        refine RS.q rfl (QO.add (by rfl) (by rfl) (by omega) (by omega)) ?_
        refine RS.q rfl (QO.move) ?_
        refine RS.nil ?_
        refine loopQ_n (by intro t ht; repeat (first | with_reducible exact rfl | exact frame_puts ht (frame_mix ht) _ rfl | (refine frame_put rfl ht ?_) | (refine frame_puts ht ?_ _ rfl) | exact frame_mix ht | (refine frame_mix2 rfl ht ?_) | exact rfl)) ?_
        exact ⟨(k + 1, v140, H140), ⟨by show k + 1 ≤ (SD (RM a b s)).length; omega, by
            have hjk : k = j := by omega
            subst hjk
            show Row 77 2 _ (rngs (alk a b) (SD (RM a b s)) (min (k + 1) ((SD (RM a b s)).length - 1))).length (rgC (rngs (alk a b) (SD (RM a b s)) (min (k + 1) ((SD (RM a b s)).length - 1)))) _
            rw [show min (k + 1) ((SD (RM a b s)).length - 1) = k + 1 by omega]
            show Row 77 2 _ (stepR (rngs (alk a b) (SD (RM a b s)) k) ((SD (RM a b s)).getD k 0) ((SD (RM a b s)).getD (k + 1) 0) (alk a b ((SD (RM a b s)).getD k 0))).length (rgC (stepR (rngs (alk a b) (SD (RM a b s)) k) ((SD (RM a b s)).getD k 0) ((SD (RM a b s)).getD (k + 1) 0) (alk a b ((SD (RM a b s)).getD k 0)))) _
            rw [step_A (by first | assumption | exact (alk_e hR92 hR98 (by assumption)).symm) (.inl hsp33), rgC_app, List.length_append]; exact hrow140⟩, by show (SD (RM a b s)).length - (k + 1) < (SD (RM a b s)).length - k; omega, kn_cons (by rfl) (kn_cons (by rfl) kn_nil), (by repeat (first | exact List.Sublist.refl _ | exact List.nil_sublist _ | refine List.Sublist.cons_cons _ ?_ | refine List.Sublist.cons _ ?_ | exact Sbp.refl | exact Sbp.nil | refine Sbp.cons (by repeat (first | exact Rem.head | apply Rem.tail)) ?_ | exact Sbp.app | refine Sbp.skip ?_))⟩
      refine CS.region ?_
      have hx := hrow.some2 (by omega)
      obtain ⟨go, cap2, junk2, hvo2, hHo, _, _, _, hjl⟩ := hx
      injection hvo2 with hv1 hv2 hv3
      subst hv1
      subst hv3
      subst hHo
      refine RS.q rfl (QO.move) ?_
      refine RS.q rfl (QO.gtr (by rfl) (by rfl)) ?_
      refine RS.q rfl (QO.move) ?_
      refine RS.on (dj := 119) rfl (congrArg Value.bool (decide_eq_true (by omega))) ?_
      refine RS.q rfl (QO.move) ?_
      refine RS.on (dj := 119) rfl (congrArg Value.bool (decide_eq_true (by omega))) ?_
      refine RS.q rfl (QO.move) ?_
      refine RS.on (dj := 119) rfl (congrArg Value.bool (decide_eq_true (by omega))) ?_
      refine RS.qv rfl (QO.sub (by rfl) (by rfl) (by omega) (by omega)) (congrArg iv (show ((rngs (alk a b) (SD (RM a b s)) j).length : Int) - 1 = (((rngs (alk a b) (SD (RM a b s)) j).length - 1 : Nat) : Int) by omega)) ?_
      refine RS.on (dj := 119) rfl (congrArg Value.bool (decide_eq_true (by omega))) ?_
      refine RS.qv rfl (QO.idx Tryd.underlying71 ty77 (by rfl) (by rfl) (by omega) (by omega)) (congrArg (fun o => Value.pointer (some ⟨go, o, none⟩)) (Nat.zero_add _)) ?_
      refine RS.on (dj := 119) rfl (congrArg Value.bool (decide_eq_true (by omega))) ?_
      refine RS.q rfl (QO.fieldAddr fo77_1 (by rfl)) ?_
      refine RS.on (dj := 119) rfl (congrArg Value.bool (decide_eq_true (by omega))) ?_
      refine RS.q rfl (QO.load ty3 (by rfl) (by repeat (first | exact List.Mem.head _ | refine List.Mem.tail _ ?_)) (rg_cell (by omega))) ?_
      refine RS.on (dj := 119) rfl (congrArg Value.bool (decide_eq_true (by omega))) ?_
      refine RS.q rfl (QO.move) ?_
      refine RS.on (dj := 119) rfl (congrArg Value.bool (decide_eq_true (by omega))) ?_
      refine RS.q rfl (QO.eql (by rfl) (by rfl)) ?_
      refine RS.q rfl (QO.pickT (by rfl) (decide_eq_true (by omega)) (by rfl)) ?_
      refine RS.nil ?_
      refine thenC_n ?_
      refine CS.cond (by rfl) (fun hb8 => ?_) (fun hb8 => ?_)
      · have hb8p := eq_of_beq hb8
        refine CS.region ?_
        refine RS.q rfl (QO.move) ?_
        refine RS.q rfl (QO.move) ?_
        refine RS.qv rfl (QO.sub (by rfl) (by rfl) (by omega) (by omega)) (congrArg iv (show ((rngs (alk a b) (SD (RM a b s)) j).length : Int) - 1 = (((rngs (alk a b) (SD (RM a b s)) j).length - 1 : Nat) : Int) by omega)) ?_
        refine RS.q rfl (QO.move) ?_
        refine RS.qv rfl (QO.idx Tryd.underlying71 ty77 (by rfl) (by rfl) (by omega) (by omega)) (congrArg (fun o => Value.pointer (some ⟨go, o, none⟩)) (Nat.zero_add _)) ?_
        refine RS.q rfl (QO.fieldAddr fo77_1 (by rfl)) ?_
        refine RS.store1e ty3 rfl (by rfl) (by rfl) (by rfl) (rg_set hsp33) (by repeat (first | exact Upd.head | apply Upd.tail)) (by rw [List.length_append, rgC_len]; omega) ?_
        refine RS.nil ?_
        refine blockC_n ?_
        refine thenC_n ?_
        refine CS.region ?_
        refine RS.q rfl (QO.add (by rfl) (by rfl) (by omega) (by omega)) ?_
        refine RS.q rfl (QO.move) ?_
        refine RS.nil ?_
        refine loopQ_n (by intro t ht; repeat (first | with_reducible exact rfl | exact frame_puts ht (frame_mix ht) _ rfl | (refine frame_put rfl ht ?_) | (refine frame_puts ht ?_ _ rfl) | exact frame_mix ht | (refine frame_mix2 rfl ht ?_) | exact rfl)) ?_
        exact ⟨(k + 1, (.slice (some ⟨go, 0, none⟩) (rngs (alk a b) (SD (RM a b s)) j).length co), [⟨go, 77, rgC ((rngs (alk a b) (SD (RM a b s)) j).dropLast ++ [((lastR (rngs (alk a b) (SD (RM a b s)) j)).1, (SD (RM a b s)).getD (k + 1) 0)]) ++ junk2⟩]), ⟨by show k + 1 ≤ (SD (RM a b s)).length; omega, by
            have hjk : k = j := by omega
            subst hjk
            show Row 77 2 _ (rngs (alk a b) (SD (RM a b s)) (min (k + 1) ((SD (RM a b s)).length - 1))).length (rgC (rngs (alk a b) (SD (RM a b s)) (min (k + 1) ((SD (RM a b s)).length - 1)))) _
            rw [show min (k + 1) ((SD (RM a b s)).length - 1) = k + 1 by omega]
            show Row 77 2 _ (stepR (rngs (alk a b) (SD (RM a b s)) k) ((SD (RM a b s)).getD k 0) ((SD (RM a b s)).getD (k + 1) 0) (alk a b ((SD (RM a b s)).getD k 0))).length (rgC (stepR (rngs (alk a b) (SD (RM a b s)) k) ((SD (RM a b s)).getD k 0) ((SD (RM a b s)).getD (k + 1) 0) (alk a b ((SD (RM a b s)).getD k 0)))) _
            rw [step_M (by first | assumption | exact (alk_e hR92 hR98 (by assumption)).symm) hsp33 (by assumption)]; exact row_merge hsp33 hco1 hco2 hjl⟩, by show (SD (RM a b s)).length - (k + 1) < (SD (RM a b s)).length - k; omega, kn_cons (by rfl) (kn_cons (by rfl) kn_nil), (by repeat (first | exact List.Sublist.refl _ | exact List.nil_sublist _ | refine List.Sublist.cons_cons _ ?_ | refine List.Sublist.cons _ ?_ | exact Sbp.refl | exact Sbp.nil | refine Sbp.cons (by repeat (first | exact Rem.head | apply Rem.tail)) ?_ | exact Sbp.app | refine Sbp.skip ?_))⟩
      have hb8p := ne_of_beq_false hb8
      refine CS.region ?_
      refine RS.q rfl (QO.move) ?_
      refine RS.q rfl (QO.move) ?_
      refine RS.q rfl (QO.move) ?_
      refine RS.q rfl (QO.build ty77 pl77 (by rfl)) ?_
      refine RS.buildSlice rfl Tryd.underlying71 ty77 (by decide) (by decide) (by rfl) (by rfl) ?_
      intro g139
      refine RS.appendRow rfl Tryd.underlying71 ty77 (by rfl) hrow (by repeat (first | exact Suf.base | apply Suf.cons)) (by rfl) (Src.blk (by repeat (first | exact List.Mem.head _ | refine List.Mem.tail _ ?_))) (by rfl) (by rfl) (by decide) (by decide) (by unfold maxLen; omega) (by omega) ?_
      intro v140 H140 hrow140
      refine RS.q rfl (QO.assign) ?_
      refine RS.nil ?_
      refine blockC_n ?_
      refine thenC_n ?_
      refine CS.region ?_
      refine RS.q rfl (QO.add (by rfl) (by rfl) (by omega) (by omega)) ?_
      refine RS.q rfl (QO.move) ?_
      refine RS.nil ?_
      refine loopQ_n (by intro t ht; repeat (first | with_reducible exact rfl | exact frame_puts ht (frame_mix ht) _ rfl | (refine frame_put rfl ht ?_) | (refine frame_puts ht ?_ _ rfl) | exact frame_mix ht | (refine frame_mix2 rfl ht ?_) | exact rfl)) ?_
      exact ⟨(k + 1, v140, H140), ⟨by show k + 1 ≤ (SD (RM a b s)).length; omega, by
          have hjk : k = j := by omega
          subst hjk
          show Row 77 2 _ (rngs (alk a b) (SD (RM a b s)) (min (k + 1) ((SD (RM a b s)).length - 1))).length (rgC (rngs (alk a b) (SD (RM a b s)) (min (k + 1) ((SD (RM a b s)).length - 1)))) _
          rw [show min (k + 1) ((SD (RM a b s)).length - 1) = k + 1 by omega]
          show Row 77 2 _ (stepR (rngs (alk a b) (SD (RM a b s)) k) ((SD (RM a b s)).getD k 0) ((SD (RM a b s)).getD (k + 1) 0) (alk a b ((SD (RM a b s)).getD k 0))).length (rgC (stepR (rngs (alk a b) (SD (RM a b s)) k) ((SD (RM a b s)).getD k 0) ((SD (RM a b s)).getD (k + 1) 0) (alk a b ((SD (RM a b s)).getD k 0)))) _
          rw [step_A (by first | assumption | exact (alk_e hR92 hR98 (by assumption)).symm) (.inr (by assumption)), rgC_app, List.length_append]; exact hrow140⟩, by show (SD (RM a b s)).length - (k + 1) < (SD (RM a b s)).length - k; omega, kn_cons (by rfl) (kn_cons (by rfl) kn_nil), (by repeat (first | exact List.Sublist.refl _ | exact List.nil_sublist _ | refine List.Sublist.cons_cons _ ?_ | refine List.Sublist.cons _ ?_ | exact Sbp.refl | exact Sbp.nil | refine Sbp.cons (by repeat (first | exact Rem.head | apply Rem.tail)) ?_ | exact Sbp.app | refine Sbp.skip ?_))⟩
    refine CS.region ?_
    have hle : LS a b s ≤ ((SD (RM a b s)).getD k 0) := by rw [show k = (SD (RM a b s)).length - 1 by omega]; exact hla8
    refine RS.q rfl (QO.move) ?_
    refine RS.qv rfl (QO.add (by rfl) (by rfl) (by omega) (by omega)) (congrArg iv (show (k : Int) + 1 = ((k + 1 : Nat) : Int) by omega)) ?_
    refine RS.q rfl (QO.move) ?_
    refine RS.q rfl (QO.lenS Tryd.underlying22 (by rfl)) ?_
    refine RS.q rfl (QO.lss (by rfl) (by rfl)) ?_
    refine RS.nil ?_
    refine thenC_n ?_
    refine CS.condF (by rfl) (decide_eq_false (by omega)) ?_
    refine CS.skip ?_
    refine thenC_n ?_
    refine CS.seq ?_
    refine CS.seq ?_
    refine CS.region ?_
    refine RS.q rfl (QO.move) ?_
    refine RS.q rfl (QO.move) ?_
    refine RS.q rfl (QO.geq (by rfl) (by rfl)) ?_
    refine RS.nil ?_
    refine thenC_n ?_
    refine CS.condT (by rfl) (decide_eq_true (by omega)) ?_
    refine CS.exit ?_
    refine thenC_x ?_
    refine blockC_x ?_
    refine thenC_n ?_
    refine CS.region ?_
    refine RS.q rfl (QO.add (by rfl) (by rfl) (by omega) (by omega)) ?_
    refine RS.q rfl (QO.move) ?_
    refine RS.nil ?_
    refine loopQ_n (by intro t ht; repeat (first | with_reducible exact rfl | exact frame_puts ht (frame_mix ht) _ rfl | (refine frame_put rfl ht ?_) | (refine frame_puts ht ?_ _ rfl) | exact frame_mix ht | (refine frame_mix2 rfl ht ?_) | exact rfl)) ?_
    exact ⟨(k + 1, .slice Ao (rngs (alk a b) (SD (RM a b s)) j).length co, Hr), ⟨by show k + 1 ≤ (SD (RM a b s)).length; omega, by show Row 77 2 _ (rngs (alk a b) (SD (RM a b s)) (min (k + 1) ((SD (RM a b s)).length - 1))).length (rgC (rngs (alk a b) (SD (RM a b s)) (min (k + 1) ((SD (RM a b s)).length - 1)))) _; rw [show min (k + 1) ((SD (RM a b s)).length - 1) = j by omega]; exact hrow⟩, by show (SD (RM a b s)).length - (k + 1) < (SD (RM a b s)).length - k; omega, kn_cons (by rfl) (kn_cons (by rfl) kn_nil), (by repeat (first | exact List.Sublist.refl _ | exact List.nil_sublist _ | refine List.Sublist.cons_cons _ ?_ | refine List.Sublist.cons _ ?_ | exact Sbp.refl | exact Sbp.nil | refine Sbp.cons (by repeat (first | exact Rem.head | apply Rem.tail)) ?_ | exact Sbp.app | refine Sbp.skip ?_))⟩
  have hb3p := of_decide_eq_false hb3
  refine CS.exit ?_
  refine thenC_x ?_
  refine loopQ_x ?_
  refine blockC_x ?_
  refine thenC_n ?_
  refine CS.seq ?_
  refine CS.region ?_
  refine RS.q rfl (QO.move) ?_
  refine RS.q rfl (QO.assign) ?_
  refine RS.nil ?_
  refine thenC_n ?_
  refine CS.ret ?_
  refine retQ.mk (H' := Hr) (.inr rfl) (RVs.tmp (by rfl) RVs.nil) (by repeat (first | exact List.Sublist.refl _ | exact List.nil_sublist _ | refine List.Sublist.cons_cons _ ?_ | refine List.Sublist.cons _ ?_ | exact Sbp.refl | exact Sbp.nil | refine Sbp.cons (by repeat (first | exact Rem.head | apply Rem.tail)) ?_ | exact Sbp.app | refine Sbp.skip ?_)) ?_
  have hke : j = (SD (RM a b s)).length - 1 := by omega
  rw [hke, hs22] at hrow
  rw [hke, hs22]
  exact hrow

end Go.Proofs.YtapcgokcfmklbaaDoor
