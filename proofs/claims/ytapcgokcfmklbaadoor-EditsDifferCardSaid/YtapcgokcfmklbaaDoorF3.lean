/-
  Contracts: conform.Compare. Conditions: as each theorem says.
-/
import Derived.Test.YtapcgokcfmklbaaDoorF2
import Derived.Test.YtapcgokcfmklbaaDoorMrk2
namespace Go.Proofs.YtapcgokcfmklbaaDoor
open Go Go.Proofs Go.RowKit

theorem ty52 : tyChk Tryd.prog 52 = some ([.string ByteArray.empty, .int .i64 0, .slice none 0 0], true, 48) := by kernel_rfl
theorem ty77 : tyChk Tryd.prog 77 = some ([.int .i64 0, .int .i64 0], true, 16) := by kernel_rfl
theorem ty143 : tyChk Tryd.prog 143 = some ([.string ByteArray.empty, .int .i64 0, .slice none 0 0, .string ByteArray.empty, .int .i64 0, .slice none 0 0], true, 96) := by kernel_rfl
theorem fo77_1 : fldOff Tryd.prog 77 1 = some (1, 3) := by kernel_rfl
theorem fo82_0 : fldOff Tryd.prog 82 0 = some (0, 3) := by kernel_rfl
theorem pl77 : places Tryd.prog 77 = some #[(0, 1), (1, 1)] := by kernel_rfl
theorem ok47 : callOK Tryd.prog 47 = true := by kernel_rfl
theorem ok96 : callOK Tryd.prog 96 = true := by kernel_rfl
theorem ok98 : callOK Tryd.prog 98 = true := by kernel_rfl
theorem ok99 : callOK Tryd.prog 99 = true := by kernel_rfl
theorem ok100 : callOK Tryd.prog 100 = true := by kernel_rfl

theorem mix82 : mixT Tryd.prog 82 [0, 1, 0, 1, 0, 2] = true := by kernel_rfl

set_option maxHeartbeats 16000000 in
set_option maxRecDepth 100000 in
theorem compare_ (t t2 : List UInt8) (r r2 : Int) (A A2 : Option Addr) (c c2 : Nat) (a b : List Ev) (W : World) (ht : t.length ≤ maxLen) (ht2 : t2.length ≤ maxLen) (hA : ES W A a) (hA2 : ES W A2 b) (hr : ∀ e ∈ a, e.reel.length ≤ maxLen) (hr2 : ∀ e ∈ b, e.reel.length ≤ maxLen) (hm : a.length ≤ maxLen) (hm2 : b.length ≤ maxLen) : Fn_ Tryd.prog 38 #[.agg #[sv t, iv r, .slice A a.length c], .agg #[sv t2, iv r2, .slice A2 b.length c2]] W (fun v H => (cmpE (edE t r a) (edE t2 r2 b) ≠ 0 ∧ v = .tuple #[.slice none 0 0, iv (cmpE (edE t r a) (edE t2 r2 b))] ∧ H = []) ∨ (cmpE (edE t r a) (edE t2 r2 b) = 0 ∧ ∃ vo, v = .tuple #[vo, iv 0] ∧ Row 77 2 vo (rngs (alk a b) (SD (PM a b (max (endB a a.length) (endB b b.length)) 2)) ((SD (PM a b (max (endB a a.length) (endB b b.length)) 2)).length - 1)).length (rgC (rngs (alk a b) (SD (PM a b (max (endB a a.length) (endB b b.length)) 2)) ((SD (PM a b (max (endB a a.length) (endB b b.length)) 2)).length - 1))) H)) := by
  refine Fn_.intro Tryd.func38 rfl rfl (by rfl) ?_
  refine CS.seq ?_
  refine CS.region ?_
  refine RS.box rfl (by rfl) (by rfl) ?_
  intro g2
  refine RS.box rfl (by rfl) (by rfl) ?_
  intro g3
  refine RS.q rfl (QO.assign) ?_
  refine RS.q rfl (QO.assign) ?_
  refine RS.nil ?_
  refine thenC_n ?_
  refine CS.seq ?_
  refine CS.seq ?_
  refine CS.region ?_
  refine RS.q rfl (QO.loadB ty52 (by rfl) (by repeat (first | exact List.Mem.head _ | refine List.Mem.tail _ ?_)) (by rfl)) ?_
  refine RS.q rfl (QO.loadB ty52 (by rfl) (by repeat (first | exact List.Mem.head _ | refine List.Mem.tail _ ?_)) (by rfl)) ?_
  refine RS.qv rfl (QO.buildA Tryd.underlying143 ty143 ty52 (by rfl)) ((show _ = Value.agg #[sv t, iv r, .slice A a.length c, sv t2, iv r2, .slice A2 b.length c2] from rfl)) ?_
  refine RS.q rfl (QO.move) ?_
  refine RS.nil ?_
  refine thenC_n ?_
  refine CS.block ?_
  refine CS.loop (X := Nat) (4 :: 5 :: 7 :: 8 :: 28 :: 29 :: 30 :: 31 :: 32 :: 33 :: 34 :: 35 :: 36 :: []) (fun s => [(28, iv (s : Int))]) (fun s => ⟨g3, 52, [sv t2, iv r2, .slice A2 b.length c2]⟩ :: ⟨g2, 52, [sv t, iv r, .slice A a.length c]⟩ :: []) (fun s => s ≤ 2 ∧ (0 < s → (edE t r a) = 0) ∧ (1 < s → (edE t2 r2 b) = 0)) (fun s => 2 - s) 0 ⟨Nat.zero_le _, fun h => absurd h (Nat.lt_irrefl _), fun h => absurd h (by decide)⟩ ?_ ?_ ?_
  · exact (by repeat (first | exact kn_nil | refine kn_cons (by rfl) ?_))
  · exact (by repeat (first | exact List.Sublist.refl _ | exact List.nil_sublist _ | refine List.Sublist.cons_cons _ ?_ | refine List.Sublist.cons _ ?_ | exact Sbp.refl | exact Sbp.nil | refine Sbp.cons (by repeat (first | exact Rem.head | apply Rem.tail)) ?_ | exact Sbp.app | refine Sbp.skip ?_))
  intro s gj2 hz
  obtain ⟨hs2, hs0, hs1⟩ := hz
  refine CS.seq ?_
  refine CS.region ?_
  refine RS.q rfl (QO.lss (by rfl) (by rfl)) ?_
  refine RS.nil ?_
  refine thenC_n ?_
  refine CS.seq ?_
  refine CS.cond (by rfl) (fun hb0 => ?_) (fun hb0 => ?_)
  · have hb0p := of_decide_eq_true hb0
    refine CS.skip ?_
    refine thenC_n ?_
    refine CS.seq ?_
    refine CS.block ?_
    refine CS.seq ?_
    refine CS.region ?_
    have hxS := pk2 (c := c) (c2 := c2) (t := t) (t2 := t2) (r := r) (r2 := r2) hA hA2 ht ht2 hr hr2 hm hm2 s (by omega)
    obtain ⟨tS, rS, AS, cS, lS, hTS, hES, hAS, hvS, htS, hrS, hmS⟩ := hxS
    refine RS.q rfl (QO.indexA (i := ((s : Nat) : Int)) Tryd.underlying143 ty52 (cs := [sv t, iv r, .slice A a.length c, sv t2, iv r2, .slice A2 b.length c2]) (vs := [sv tS, iv rS, .slice AS lS.length cS]) (by rfl) (by rfl) (by omega) (by omega) hvS) ?_
    refine RS.alloc rfl ty52 ?_
    intro g7
    refine RS.storeB ty52 (by rfl) (by rfl) (by rfl) (by rfl) (by rfl) (by repeat (first | exact Upd.head | apply Upd.tail)) (by rfl) ?_
    refine RS.nil ?_
    refine thenC_n ?_
    refine CS.seq ?_
    refine CS.region ?_
    refine RS.q rfl (QO.loadB ty52 (by rfl) (by repeat (first | exact List.Mem.head _ | refine List.Mem.tail _ ?_)) (by rfl)) ?_
    refine RS.call rfl (by rfl) ok47 (by rfl) (fun w ho => checkList tS rS AS lS.length cS lS _ htS rfl (hAS.own ho) hrS hmS) ?_
    rintro _ _ ⟨rfl, rfl⟩
    refine RS.q rfl (QO.assign) ?_
    refine RS.nil ?_
    refine thenC_n ?_
    refine CS.seq ?_
    refine CS.region ?_
    refine RS.q rfl (QO.move) ?_
    refine RS.q rfl (QO.neq (by rfl) (by rfl)) ?_
    refine RS.nil ?_
    refine thenC_n ?_
    refine CS.cond (by rfl) (fun hb1 => ?_) (fun hb1 => ?_)
    · have hb1p := bne_iff_ne.1 hb1
      refine CS.seq ?_
      refine CS.region ?_
      refine RS.q rfl (QO.move) ?_
      refine RS.q rfl (QO.assign) ?_
      refine RS.q rfl (QO.assign) ?_
      refine RS.nil ?_
      refine thenC_n ?_
      refine CS.ret ?_
      refine blockC_r ?_
      refine thenC_r ?_
      refine loopQ_r ?_
      refine blockC_r ?_
      refine thenC_r ?_
      refine retQ.mk (H' := []) (.inr rfl) (RVs.tmp (by rfl) (RVs.tmp (by rfl) RVs.nil)) (List.nil_sublist _) ?_
      have hT1 : T2 (edE t r a) (edE t2 r2 b) s ≠ 0 := by rw [← hES]; assumption
      exact .inl ⟨by rw [cmpE_at hs0 hT1]; exact hT1, by rw [cmpE_at hs0 hT1, ← hES]; rfl, rfl⟩
    have hb1p := of_bne_false hb1
    refine CS.skip ?_
    refine blockC_n ?_
    refine thenC_n ?_
    refine CS.region ?_
    refine RS.q rfl (QO.add (by rfl) (by rfl) (by omega) (by omega)) ?_
    refine RS.q rfl (QO.move) ?_
    refine RS.nil ?_
    refine loopQ_n (by intro t ht; repeat (first | with_reducible exact rfl | exact frame_puts ht (frame_mix ht) _ rfl | (refine frame_put rfl ht ?_) | (refine frame_puts ht ?_ _ rfl) | exact frame_mix ht | (refine frame_mix2 rfl ht ?_) | exact rfl)) ?_
    have hT0 : T2 (edE t r a) (edE t2 r2 b) s = 0 := by rw [← hES]; assumption
    exact ⟨s + 1, ⟨by omega, cl2_0 hs0 hT0, cl2_1 hs0 hT0⟩, by omega, (by repeat (first | exact kn_nil | refine kn_cons (by rfl) ?_)), (by repeat (first | exact List.Sublist.refl _ | exact List.nil_sublist _ | refine List.Sublist.cons_cons _ ?_ | refine List.Sublist.cons _ ?_ | exact Sbp.refl | exact Sbp.nil | refine Sbp.cons (by repeat (first | exact Rem.head | apply Rem.tail)) ?_ | exact Sbp.app | refine Sbp.skip ?_))⟩
  have hb0p := of_decide_eq_false hb0
  refine CS.exit ?_
  refine thenC_x ?_
  refine loopQ_x ?_
  refine blockC_x ?_
  refine thenC_n ?_
  refine CS.seq ?_
  refine CS.draw 7 rfl (by kernel_rfl) (by kernel_rfl) ?_
  have hEa : (edE t r a) = 0 := hs0 (by omega)
  have hEb : (edE t2 r2 b) = 0 := hs1 (by omega)
  have hla := (edE_ok hEa).2.2.1
  have hlb := (edE_ok hEb).2.2.1
  have hoka : ∀ i, i < a.length → okE (a.getD i default) := fun i hi => okE_of hEa hi
  have hokb : ∀ i, i < b.length → okE (b.getD i default) := fun i hi => okE_of hEb hi
  have hPl := PM_len (M := (max (endB a a.length) (endB b b.length))) hoka hokb hla hlb
  refine RT.take (i := 0) rfl (by kernel_rfl) rfl (QO.loadB ty52 (by rfl) (by repeat (first | exact List.Mem.head _ | refine List.Mem.tail _ ?_)) (by rfl)) ?_
  refine RT.take (i := 2) rfl (by kernel_rfl) rfl (QO.loadB ty52 (by rfl) (by repeat (first | exact List.Mem.head _ | refine List.Mem.tail _ ?_)) (by rfl)) ?_
  refine RT.one (i := 1) (by kernel_rfl) rfl rfl ?_
  refine RS.call rfl (by rfl) ok96 (by rfl) (fun w ho => ends1 t r A a.length c a _ rfl (hA.own ho) hEa hm) ?_
  rintro _ _ ⟨rfl, rfl⟩
  refine RS.nil ⟨(by repeat (first | exact List.Sublist.refl _ | exact List.nil_sublist _ | refine List.Sublist.cons_cons _ ?_ | refine List.Sublist.cons _ ?_ | exact Sbp.refl | exact Sbp.nil | refine Sbp.cons (by repeat (first | exact Rem.head | apply Rem.tail)) ?_ | exact Sbp.app | refine Sbp.skip ?_)), ?_⟩
  refine RT.one (i := 3) (by kernel_rfl) rfl rfl ?_
  refine RS.call rfl (by rfl) ok96 (by rfl) (fun w ho => ends1 t2 r2 A2 b.length c2 b _ rfl (hA2.own ho) hEb hm2) ?_
  rintro _ _ ⟨rfl, rfl⟩
  refine RS.nil ⟨(by repeat (first | exact List.Sublist.refl _ | exact List.nil_sublist _ | refine List.Sublist.cons_cons _ ?_ | refine List.Sublist.cons _ ?_ | exact Sbp.refl | exact Sbp.nil | refine Sbp.cons (by repeat (first | exact Rem.head | apply Rem.tail)) ?_ | exact Sbp.app | refine Sbp.skip ?_)), ?_⟩
  refine RT.take (i := 4) rfl (by kernel_rfl) rfl (QO.max2 (by rfl) (by rfl)) ?_
  refine RT.one (i := 5) (by kernel_rfl) rfl rfl ?_
  refine RS.buildSlice rfl Tryd.underlying22 ty3 (by decide) (by decide) (by rfl) (by rfl) ?_
  intro g42
  refine RS.nil ⟨(by repeat (first | exact List.Sublist.refl _ | exact List.nil_sublist _ | refine List.Sublist.cons_cons _ ?_ | refine List.Sublist.cons _ ?_ | exact Sbp.refl | exact Sbp.nil | refine Sbp.cons (by repeat (first | exact Rem.head | apply Rem.tail)) ?_ | exact Sbp.app | refine Sbp.skip ?_)), ?_⟩
  refine RT.take (i := 6) rfl (by kernel_rfl) rfl (QO.assign) ?_
  refine RT.done (by kernel_rfl) ?_
  refine thenC_n ?_
  refine CS.seq ?_
  refine CS.seq ?_
  refine CS.region ?_
  refine RS.q rfl (QO.loadB ty52 (by rfl) (by repeat (first | exact List.Mem.head _ | refine List.Mem.tail _ ?_)) (by rfl)) ?_
  refine RS.q rfl (QO.loadB ty52 (by rfl) (by repeat (first | exact List.Mem.head _ | refine List.Mem.tail _ ?_)) (by rfl)) ?_
  refine RS.qv rfl (QO.buildA Tryd.underlying143 ty143 ty52 (by rfl)) ((show _ = Value.agg #[sv t, iv r, .slice A a.length c, sv t2, iv r2, .slice A2 b.length c2] from rfl)) ?_
  refine RS.q rfl (QO.move) ?_
  refine RS.nil ?_
  refine thenC_n ?_
  refine CS.block ?_
  refine CS.loop (X := Nat × Value × HL) (9 :: 11 :: 13 :: 14 :: 46 :: 47 :: 48 :: 49 :: 50 :: 51 :: 52 :: 53 :: 54 :: 55 :: 56 :: 57 :: 58 :: 59 :: 60 :: 61 :: 62 :: 63 :: 64 :: 65 :: 66 :: 67 :: 68 :: 69 :: 70 :: 71 :: 72 :: 73 :: 74 :: 75 :: 76 :: 77 :: 78 :: 79 :: 80 :: []) (fun z => [(46, iv (z.1 : Int)), (9, z.2.1)]) (fun z => ⟨g3, 52, [sv t2, iv r2, .slice A2 b.length c2]⟩ :: ⟨g2, 52, [sv t, iv r, .slice A a.length c]⟩ :: z.2.2) (fun z => z.1 ≤ 2 ∧ Row 3 1 z.2.1 (PM a b (max (endB a a.length) (endB b b.length)) z.1).length ((PM a b (max (endB a a.length) (endB b b.length)) z.1).map (Value.int .i64)) z.2.2) (fun z => 2 - z.1) (0, .slice (some ⟨g42, 0, none⟩) 2 2, [⟨g42, 3, [iv 0, iv (max (endB a a.length) (endB b b.length))]⟩]) ⟨Nat.zero_le _, .own (junk := []) rfl rfl (Nat.le_refl _) (by decide)⟩ ?_ ?_ ?_
  · exact kn_cons (by rfl) (kn_cons (by rfl) kn_nil)
  · exact (by repeat (first | exact List.Sublist.refl _ | exact List.nil_sublist _ | refine List.Sublist.cons_cons _ ?_ | refine List.Sublist.cons _ ?_ | exact Sbp.refl | exact Sbp.nil | refine Sbp.cons (by repeat (first | exact Rem.head | apply Rem.tail)) ?_ | exact Sbp.app | refine Sbp.skip ?_))
  intro z gj10 hz
  obtain ⟨s, vo, Hr⟩ := z
  obtain ⟨hs2, hrow⟩ := hz
  simp only at hs2 hrow
  have hPs := hPl s
  show CS _ _ _ _ _ (puts (mix _ _ _) [(46, iv (s : Int)), (9, vo)]) (⟨g3, 52, [sv t2, iv r2, .slice A2 b.length c2]⟩ :: ⟨g2, 52, [sv t, iv r, .slice A a.length c]⟩ :: Hr)
  refine CS.seq ?_
  refine CS.region ?_
  refine RS.q rfl (QO.lss (by rfl) (by rfl)) ?_
  refine RS.nil ?_
  refine thenC_n ?_
  refine CS.seq ?_
  refine CS.cond (by rfl) (fun hb2 => ?_) (fun hb2 => ?_)
  · have hb2p := of_decide_eq_true hb2
    refine CS.skip ?_
    refine thenC_n ?_
    refine CS.seq ?_
    refine CS.block ?_
    refine CS.seq ?_
    refine CS.region ?_
    have hxS := pk2 (c := c) (c2 := c2) (t := t) (t2 := t2) (r := r) (r2 := r2) hA hA2 ht ht2 hr hr2 hm hm2 s (by omega)
    obtain ⟨tS, rS, AS, cS, lS, hTS, hES, hAS, hvS, htS, hrS, hmS⟩ := hxS
    refine RS.q rfl (QO.indexA (i := ((s : Nat) : Int)) Tryd.underlying143 ty52 (cs := [sv t, iv r, .slice A a.length c, sv t2, iv r2, .slice A2 b.length c2]) (vs := [sv tS, iv rS, .slice AS lS.length cS]) (by rfl) (by rfl) (by omega) (by omega) hvS) ?_
    refine RS.alloc rfl ty52 ?_
    intro g11
    refine RS.storeB ty52 (by rfl) (by rfl) (by rfl) (by rfl) (by rfl) (by repeat (first | exact Upd.head | apply Upd.tail)) (by rfl) ?_
    refine RS.nil ?_
    refine thenC_n ?_
    refine CS.seq ?_
    refine CS.region ?_
    refine RS.q rfl (QO.fieldAddr fo52_2 (by rfl)) ?_
    refine RS.q rfl (QO.load ty50 (by rfl) (by repeat (first | exact List.Mem.head _ | refine List.Mem.tail _ ?_)) (by rfl)) ?_
    refine RS.q rfl (QO.lenS Tryd.underlying50 (by rfl)) ?_
    refine RS.q rfl (QO.move) ?_
    refine RS.nil ?_
    refine thenC_n ?_
    refine CS.block ?_
    have hlS : lS.length ≤ 500 := by rw [← hTS]; exact T2_all (P := fun l => l.length ≤ 500) hla hlb s
    have hokS : ∀ i, i < lS.length → okE (lS.getD i default) := by rw [← hTS]; exact T2_all (P := fun l => ∀ i, i < l.length → okE (l.getD i default)) hoka hokb s
    refine CS.loop (X := Nat × Value × HL) (9 :: 13 :: 14 :: 52 :: 53 :: 54 :: 55 :: 56 :: 57 :: 58 :: 59 :: 60 :: 61 :: 62 :: 63 :: 64 :: 65 :: 66 :: 67 :: 68 :: 69 :: 70 :: 71 :: 72 :: 73 :: 74 :: 75 :: 76 :: 77 :: 78 :: 79 :: []) (fun z => [(52, iv (z.1 : Int)), (9, z.2.1)]) (fun z => ⟨g11, 52, [sv tS, iv rS, .slice AS lS.length cS]⟩ :: ⟨g3, 52, [sv t2, iv r2, .slice A2 b.length c2]⟩ :: ⟨g2, 52, [sv t, iv r, .slice A a.length c]⟩ :: z.2.2) (fun z => z.1 ≤ lS.length ∧ Row 3 1 z.2.1 (PM a b (max (endB a a.length) (endB b b.length)) s ++ mkL lS z.1).length ((PM a b (max (endB a a.length) (endB b b.length)) s ++ mkL lS z.1).map (Value.int .i64)) z.2.2) (fun z => lS.length - z.1) (0, vo, Hr) ⟨Nat.zero_le _, by rw [show mkL lS 0 = [] from rfl, List.append_nil]; exact hrow⟩ ?_ ?_ ?_
    · exact kn_cons (by rfl) (kn_cons (by rfl) kn_nil)
    · exact (by repeat (first | exact List.Sublist.refl _ | exact List.nil_sublist _ | refine List.Sublist.cons_cons _ ?_ | refine List.Sublist.cons _ ?_ | exact Sbp.refl | exact Sbp.nil | refine Sbp.cons (by repeat (first | exact Rem.head | apply Rem.tail)) ?_ | exact Sbp.app | refine Sbp.skip ?_))
    intro z gj13 hz
    clear hrow
    obtain ⟨k, vo, Hr⟩ := z
    obtain ⟨hk, hrow⟩ := hz
    simp only at hk hrow
    have hbl : (PM a b (max (endB a a.length) (endB b b.length)) s ++ mkL lS k).length ≤ 400000 := by have := mkL_len hokS k hk; rw [List.length_append]; omega
    show CS _ _ _ _ _ (puts (mix _ _ _) [(52, iv (k : Int)), (9, vo)]) (⟨g11, 52, [sv tS, iv rS, .slice AS lS.length cS]⟩ :: ⟨g3, 52, [sv t2, iv r2, .slice A2 b.length c2]⟩ :: ⟨g2, 52, [sv t, iv r, .slice A a.length c]⟩ :: Hr)
    refine CS.seq ?_
    refine CS.region ?_
    refine RS.q rfl (QO.lss (by rfl) (by rfl)) ?_
    refine RS.nil ?_
    refine thenC_n ?_
    refine CS.seq ?_
    refine CS.cond (by rfl) (fun hb3 => ?_) (fun hb3 => ?_)
    · have hb3p := of_decide_eq_true hb3
      refine CS.skip ?_
      refine thenC_n ?_
      refine CS.seq ?_
      refine CS.block ?_
      refine CS.seq ?_
      refine CS.region ?_
      have hx1 := hAS.at_ (show k < lS.length by omega)
      obtain ⟨bA, oA, hA0, hcell⟩ := hx1
      subst hA0
      have hx2 : ∃ e, lS.getD k default = e := ⟨_, rfl⟩
      obtain ⟨e, he⟩ := hx2
      rw [he] at hcell
      have hoe := hokS k (by omega)
      rw [he] at hoe
      unfold okE at hoe
      refine RS.q rfl (QO.idx Tryd.underlying50 ty134 (by rfl) (by rfl) (by omega) (by omega)) ?_
      refine RS.q rfl (QO.loadOA ty134 (vs := evc e) (by rfl) hcell (by rfl)) ?_
      refine RS.alloc rfl ty134 ?_
      intro g13
      refine RS.storeB ty134 (by rfl) (by rfl) (by rfl) (by rfl) (by rfl) (by repeat (first | exact Upd.head | apply Upd.tail)) (by rfl) ?_
      refine RS.nil ?_
      refine thenC_n ?_
      refine CS.seq ?_
      refine CS.drawS (HS := ⟨g13, 134, [sv e.reel, iv e.kind, iv e.len, iv e.inn, iv e.out, iv e.at_]⟩ :: ⟨g11, 52, [sv tS, iv rS, .slice (some ⟨bA, oA, none⟩) lS.length cS]⟩ :: ⟨g3, 52, [sv t2, iv r2, .slice A2 b.length c2]⟩ :: ⟨g2, 52, [sv t, iv r, .slice A a.length c]⟩ :: []) 11 (by repeat (first | exact List.Sublist.refl _ | exact List.nil_sublist _ | refine List.Sublist.cons_cons _ ?_ | refine List.Sublist.cons _ ?_ | exact Sbp.refl | exact Sbp.nil | refine Sbp.cons (by repeat (first | exact Rem.head | apply Rem.tail)) ?_ | exact Sbp.app | refine Sbp.skip ?_)) rfl (by kernel_rfl) (by kernel_rfl) ?_
      refine RT.take (i := 0) rfl (by kernel_rfl) rfl (QO.move) ?_
      refine RT.take (i := 1) rfl (by kernel_rfl) rfl (QO.fieldAddr fo134_5 (by rfl)) ?_
      refine RT.take (i := 2) rfl (by kernel_rfl) rfl (QO.load ty3 (by rfl) (by repeat (first | exact List.Mem.head _ | refine List.Mem.tail _ ?_)) (by rfl)) ?_
      refine RT.take (i := 3) rfl (by kernel_rfl) rfl (QO.fieldAddr fo134_5 (by rfl)) ?_
      refine RT.take (i := 4) rfl (by kernel_rfl) rfl (QO.load ty3 (by rfl) (by repeat (first | exact List.Mem.head _ | refine List.Mem.tail _ ?_)) (by rfl)) ?_
      refine RT.take (i := 5) rfl (by kernel_rfl) rfl (QO.loadB ty134 (by rfl) (by repeat (first | exact List.Mem.head _ | refine List.Mem.tail _ ?_)) (by rfl)) ?_
      refine RT.one (i := 6) (by kernel_rfl) rfl rfl ?_
      refine RS.call rfl (by rfl) ok97 (by rfl) (fun w ho => long_ e _ (by omega)) ?_
      rintro _ _ ⟨rfl, rfl⟩
      refine RS.nil ⟨(by repeat (first | exact List.Sublist.refl _ | exact List.nil_sublist _ | refine List.Sublist.cons_cons _ ?_ | refine List.Sublist.cons _ ?_ | exact Sbp.refl | exact Sbp.nil | refine Sbp.cons (by repeat (first | exact Rem.head | apply Rem.tail)) ?_ | exact Sbp.app | refine Sbp.skip ?_)), ?_⟩
      refine RT.takev (i := 7) rfl (by kernel_rfl) rfl (QO.add (by rfl) (by rfl) (by omega) (by omega)) (congrArg iv (show e.at_ + (e.out - e.inn) = evEnd e from rfl)) ?_
      refine RT.one (i := 8) (by kernel_rfl) rfl rfl ?_
      refine RS.buildSlice rfl Tryd.underlying22 ty3 (by decide) (by decide) (by rfl) (by rfl) ?_
      intro g64
      refine RS.nil ⟨(by repeat (first | exact List.Sublist.refl _ | exact List.nil_sublist _ | refine List.Sublist.cons_cons _ ?_ | refine List.Sublist.cons _ ?_ | exact Sbp.refl | exact Sbp.nil | refine Sbp.cons (by repeat (first | exact Rem.head | apply Rem.tail)) ?_ | exact Sbp.app | refine Sbp.skip ?_)), ?_⟩
      refine RT.one (i := 9) (by kernel_rfl) rfl rfl ?_
      refine RS.appendRow rfl Tryd.underlying22 ty3 (by rfl) hrow (by repeat (first | exact Suf.base | apply Suf.cons)) (by rfl) (Src.blk (by repeat (first | exact List.Mem.head _ | refine List.Mem.tail _ ?_))) (by rfl) (by rfl) (by decide) (by decide) (by unfold maxLen; omega) (by omega) ?_
      intro v65 H65 hrow65
      refine RS.nil ⟨(by repeat (first | exact List.Sublist.refl _ | exact List.nil_sublist _ | refine List.Sublist.cons_cons _ ?_ | refine List.Sublist.cons _ ?_ | exact Sbp.refl | exact Sbp.nil | refine Sbp.cons (by repeat (first | exact Rem.head | apply Rem.tail)) ?_ | exact Sbp.app | refine Sbp.skip ?_)), ?_⟩
      refine RT.take (i := 10) rfl (by kernel_rfl) rfl (QO.assign) ?_
      refine RT.done (by kernel_rfl) ?_
      refine thenC_n ?_
      refine CS.seq ?_
      refine CS.region ?_
      refine RS.q rfl (QO.assign) ?_
      refine RS.nil ?_
      refine thenC_n ?_
      refine CS.block ?_
      refine CS.loop (X := Nat × Value × HL) (9 :: 14 :: 66 :: 67 :: 68 :: 69 :: 70 :: 71 :: 72 :: 73 :: 74 :: 75 :: 76 :: 77 :: 78 :: []) (fun z => [(14, iv ((z.1 + 1 : Nat) : Int)), (9, z.2.1)]) (fun z => ⟨g13, 134, [sv e.reel, iv e.kind, iv e.len, iv e.inn, iv e.out, iv e.at_]⟩ :: ⟨g11, 52, [sv tS, iv rS, .slice (some ⟨bA, oA, none⟩) lS.length cS]⟩ :: ⟨g3, 52, [sv t2, iv r2, .slice A2 b.length c2]⟩ :: ⟨g2, 52, [sv t, iv r, .slice A a.length c]⟩ :: z.2.2) (fun z => z.1 ≤ e.len.toNat ∧ Row 3 1 z.2.1 ((PM a b (max (endB a a.length) (endB b b.length)) s ++ mkL lS k) ++ mkD e z.1).length (((PM a b (max (endB a a.length) (endB b b.length)) s ++ mkL lS k) ++ mkD e z.1).map (Value.int .i64)) z.2.2) (fun z => e.len.toNat - z.1) (0, v65, H65) ⟨Nat.zero_le _, by rw [List.length_append, List.map_append]; exact hrow65⟩ ?_ ?_ ?_
      · exact kn_cons (by rfl) (kn_cons (by rfl) kn_nil)
      · exact (by repeat (first | exact List.Sublist.refl _ | exact List.nil_sublist _ | refine List.Sublist.cons_cons _ ?_ | refine List.Sublist.cons _ ?_ | exact Sbp.refl | exact Sbp.nil | refine Sbp.cons (by repeat (first | exact Rem.head | apply Rem.tail)) ?_ | exact Sbp.app | refine Sbp.skip ?_))
      intro z gj17 hz
      clear hrow hrow65
      obtain ⟨q, vo, Hr⟩ := z
      obtain ⟨hq, hrow⟩ := hz
      simp only at hq hrow
      have hbl2 : ((PM a b (max (endB a a.length) (endB b b.length)) s ++ mkL lS k) ++ mkD e q).length ≤ 500000 := by rw [List.length_append, mkD_len]; omega
      show CS _ _ _ _ _ (puts (mix _ _ _) [(14, iv ((q + 1 : Nat) : Int)), (9, vo)]) (⟨g13, 134, [sv e.reel, iv e.kind, iv e.len, iv e.inn, iv e.out, iv e.at_]⟩ :: ⟨g11, 52, [sv tS, iv rS, .slice (some ⟨bA, oA, none⟩) lS.length cS]⟩ :: ⟨g3, 52, [sv t2, iv r2, .slice A2 b.length c2]⟩ :: ⟨g2, 52, [sv t, iv r, .slice A a.length c]⟩ :: Hr)
      refine CS.seq ?_
      refine CS.seq ?_
      refine CS.region ?_
      refine RS.q rfl (QO.move) ?_
      refine RS.q rfl (QO.fieldAddr fo134_2 (by rfl)) ?_
      refine RS.q rfl (QO.load ty3 (by rfl) (by repeat (first | exact List.Mem.head _ | refine List.Mem.tail _ ?_)) (by rfl)) ?_
      refine RS.q rfl (QO.leq (by rfl) (by rfl)) ?_
      refine RS.nil ?_
      refine thenC_n ?_
      refine CS.cond (by rfl) (fun hb4 => ?_) (fun hb4 => ?_)
      · have hb4p := of_decide_eq_true hb4
        refine CS.skip ?_
        refine thenC_n ?_
        refine CS.seq ?_
        refine CS.block ?_
        refine CS.region ?_
        refine RS.q rfl (QO.move) ?_
        refine RS.q rfl (QO.fieldAddr fo134_5 (by rfl)) ?_
        refine RS.q rfl (QO.load ty3 (by rfl) (by repeat (first | exact List.Mem.head _ | refine List.Mem.tail _ ?_)) (by rfl)) ?_
        refine RS.q rfl (QO.move) ?_
        refine RS.q rfl (QO.add (by rfl) (by rfl) (by omega) (by omega)) ?_
        refine RS.buildSlice rfl Tryd.underlying22 ty3 (by decide) (by decide) (by rfl) (by rfl) ?_
        intro g77
        refine RS.appendRow rfl Tryd.underlying22 ty3 (by rfl) hrow (by repeat (first | exact Suf.base | apply Suf.cons)) (by rfl) (Src.blk (by repeat (first | exact List.Mem.head _ | refine List.Mem.tail _ ?_))) (by rfl) (by rfl) (by decide) (by decide) (by unfold maxLen; omega) (by omega) ?_
        intro v78 H78 hrow78
        refine RS.q rfl (QO.assign) ?_
        refine RS.nil ?_
        refine blockC_n ?_
        refine thenC_n ?_
        refine CS.region ?_
        refine RS.q rfl (QO.move) ?_
        refine RS.q rfl (QO.add (by rfl) (by rfl) (by omega) (by omega)) ?_
        refine RS.q rfl (QO.assign) ?_
        refine RS.nil ?_
        refine loopQ_n (by intro t ht; repeat (first | with_reducible exact rfl | exact frame_puts ht (frame_mix ht) _ rfl | (refine frame_put rfl ht ?_) | (refine frame_puts ht ?_ _ rfl) | exact frame_mix ht | (refine frame_mix2 rfl ht ?_) | exact rfl)) ?_
        exact ⟨(q + 1, v78, H78), ⟨by show q + 1 ≤ e.len.toNat; omega, by show Row 3 1 v78 ((PM a b (max (endB a a.length) (endB b b.length)) s ++ mkL lS k) ++ mkD e (q + 1)).length (((PM a b (max (endB a a.length) (endB b b.length)) s ++ mkL lS k) ++ mkD e (q + 1)).map (Value.int .i64)) H78; rw [← mkD_succ, ← List.append_assoc, List.length_append (bs := [_]), List.map_append (l₂ := [_])]; exact hrow78⟩, by show e.len.toNat - (q + 1) < e.len.toNat - q; omega, kn_cons (by rfl) (kn_cons (by rfl) kn_nil), (by repeat (first | exact List.Sublist.refl _ | exact List.nil_sublist _ | refine List.Sublist.cons_cons _ ?_ | refine List.Sublist.cons _ ?_ | exact Sbp.refl | exact Sbp.nil | refine Sbp.cons (by repeat (first | exact Rem.head | apply Rem.tail)) ?_ | exact Sbp.app | refine Sbp.skip ?_))⟩
      have hb4p := of_decide_eq_false hb4
      refine CS.exit ?_
      refine thenC_x ?_
      refine loopQ_x ?_
      refine blockC_x ?_
      refine blockC_n ?_
      refine thenC_n ?_
      refine CS.region ?_
      refine RS.q rfl (QO.add (by rfl) (by rfl) (by omega) (by omega)) ?_
      refine RS.q rfl (QO.move) ?_
      refine RS.nil ?_
      refine loopQ_n (by intro t ht; repeat (first | with_reducible exact rfl | exact frame_puts ht (frame_mix ht) _ rfl | (refine frame_put rfl ht ?_) | (refine frame_puts ht ?_ _ rfl) | exact frame_mix ht | (refine frame_mix2 rfl ht ?_) | exact rfl)) ?_
      have hqe : q = e.len.toNat := by omega
      rw [hqe] at hrow
      exact ⟨(k + 1, vo, Hr), ⟨by show k + 1 ≤ lS.length; omega, by show Row 3 1 vo (PM a b (max (endB a a.length) (endB b b.length)) s ++ (mkL lS k ++ mkP (lS.getD k default))).length ((PM a b (max (endB a a.length) (endB b b.length)) s ++ (mkL lS k ++ mkP (lS.getD k default))).map (Value.int .i64)) Hr; rw [he, ← List.append_assoc]; exact hrow⟩, by show lS.length - (k + 1) < lS.length - k; omega, kn_cons (by rfl) (kn_cons (by rfl) kn_nil), (by repeat (first | exact List.Sublist.refl _ | exact List.nil_sublist _ | refine List.Sublist.cons_cons _ ?_ | refine List.Sublist.cons _ ?_ | exact Sbp.refl | exact Sbp.nil | refine Sbp.cons (by repeat (first | exact Rem.head | apply Rem.tail)) ?_ | exact Sbp.app | refine Sbp.skip ?_))⟩
    have hb3p := of_decide_eq_false hb3
    refine CS.exit ?_
    refine thenC_x ?_
    refine loopQ_x ?_
    refine blockC_x ?_
    refine blockC_n ?_
    refine thenC_n ?_
    refine CS.region ?_
    refine RS.q rfl (QO.add (by rfl) (by rfl) (by omega) (by omega)) ?_
    refine RS.q rfl (QO.move) ?_
    refine RS.nil ?_
    refine loopQ_n (by intro t ht; repeat (first | with_reducible exact rfl | exact frame_puts ht (frame_mix ht) _ rfl | (refine frame_put rfl ht ?_) | (refine frame_puts ht ?_ _ rfl) | exact frame_mix ht | (refine frame_mix2 rfl ht ?_) | exact rfl)) ?_
    have hke : k = lS.length := by omega
    rw [hke] at hrow
    exact ⟨(s + 1, vo, Hr), ⟨by show s + 1 ≤ 2; omega, by show Row 3 1 vo (PM a b (max (endB a a.length) (endB b b.length)) s ++ mkL (T2 a b s) (T2 a b s).length).length ((PM a b (max (endB a a.length) (endB b b.length)) s ++ mkL (T2 a b s) (T2 a b s).length).map (Value.int .i64)) Hr; rw [hTS]; exact hrow⟩, by show 2 - (s + 1) < 2 - s; omega, kn_cons (by rfl) (kn_cons (by rfl) kn_nil), (by repeat (first | exact List.Sublist.refl _ | exact List.nil_sublist _ | refine List.Sublist.cons_cons _ ?_ | refine List.Sublist.cons _ ?_ | exact Sbp.refl | exact Sbp.nil | refine Sbp.cons (by repeat (first | exact Rem.head | apply Rem.tail)) ?_ | exact Sbp.app | refine Sbp.skip ?_))⟩
  have hb2p := of_decide_eq_false hb2
  refine CS.exit ?_
  refine thenC_x ?_
  refine loopQ_x ?_
  refine blockC_x ?_
  refine thenC_n ?_
  refine CS.seq ?_
  refine CS.region ?_
  have hP0 := PM_zero a b (max (endB a a.length) (endB b b.length)) s
  have hPp : 0 < (PM a b (max (endB a a.length) (endB b b.length)) s).length := List.length_pos_of_mem hP0
  have hx := hrow.some hPp
  obtain ⟨gm, cap, junk, hv9, hH9, hcap, hcm, hxl⟩ := hx
  subst hv9
  subst hH9
  refine RS.q rfl (QO.move) ?_
  refine RS.callH (⟨gm, 3, (PM a b (max (endB a a.length) (endB b b.length)) s).map (Value.int .i64) ++ junk⟩ :: [⟨g3, 52, [sv t2, iv r2, .slice A2 b.length c2]⟩, ⟨g2, 52, [sv t, iv r, .slice A a.length c]⟩]) rfl (by rfl) ok98 (by rfl) (by repeat (first | exact List.Sublist.refl _ | exact List.nil_sublist _ | refine List.Sublist.cons_cons _ ?_ | refine List.Sublist.cons _ ?_ | exact Sbp.refl | exact Sbp.nil | refine Sbp.cons (by repeat (first | exact Rem.head | apply Rem.tail)) ?_ | exact Sbp.app | refine Sbp.skip ?_)) (fun w ho => sortI gm cap (PM a b (max (endB a a.length) (endB b b.length)) s) junk [⟨g3, 52, [sv t2, iv r2, .slice A2 b.length c2]⟩, ⟨g2, 52, [sv t, iv r, .slice A a.length c]⟩] _ 3 (by omega)) ?_
  rintro _ _ ⟨rfl, rfl⟩
  refine RS.nil ?_
  refine thenC_n ?_
  refine CS.seq ?_
  refine CS.region ?_
  refine RS.q rfl (QO.move) ?_
  refine RS.callH (⟨gm, 3, (srt (PM a b (max (endB a a.length) (endB b b.length)) s)).map (Value.int .i64) ++ junk⟩ :: [⟨g3, 52, [sv t2, iv r2, .slice A2 b.length c2]⟩, ⟨g2, 52, [sv t, iv r, .slice A a.length c]⟩]) rfl (by rfl) ok99 (by rfl) (by repeat (first | exact List.Sublist.refl _ | exact List.nil_sublist _ | refine List.Sublist.cons_cons _ ?_ | refine List.Sublist.cons _ ?_ | exact Sbp.refl | exact Sbp.nil | refine Sbp.cons (by repeat (first | exact Rem.head | apply Rem.tail)) ?_ | exact Sbp.app | refine Sbp.skip ?_)) (fun w ho => compactSD gm cap (PM a b (max (endB a a.length) (endB b b.length)) s) junk [⟨g3, 52, [sv t2, iv r2, .slice A2 b.length c2]⟩, ⟨g2, 52, [sv t, iv r, .slice A a.length c]⟩] _ 3 (by omega) hcap) ?_
  rintro _ _ ⟨rfl, rfl⟩
  refine RS.q rfl (QO.assign) ?_
  refine RS.nil ?_
  refine thenC_n ?_
  refine CS.seq ?_
  refine CS.region ?_
  refine RS.q rfl (QO.assign) ?_
  refine RS.nil ?_
  refine thenC_n ?_
  refine CS.seq ?_
  refine CS.seq ?_
  refine CS.region ?_
  refine RS.q rfl (QO.assign) ?_
  refine RS.nil ?_
  refine thenC_n ?_
  refine CS.block ?_
  have hS1 : 0 + 1 ≤ (SD (PM a b (max (endB a a.length) (endB b b.length)) s)).length := SD_ne hP0
  have hSl := SD_le (PM a b (max (endB a a.length) (endB b b.length)) s)
  clear hrow
  refine CS.loop (X := Nat × Value × HL) (15 :: 16 :: 17 :: 18 :: 19 :: 20 :: 21 :: 22 :: 23 :: 24 :: 85 :: 86 :: 87 :: 88 :: 89 :: 90 :: 91 :: 92 :: 93 :: 94 :: 95 :: 96 :: 97 :: 98 :: 99 :: 100 :: 101 :: 102 :: 103 :: 104 :: 105 :: 106 :: 107 :: 108 :: 109 :: 110 :: 111 :: 112 :: 113 :: 114 :: 115 :: 116 :: 117 :: 118 :: 119 :: 120 :: 121 :: 122 :: 123 :: 124 :: 125 :: 126 :: 127 :: 128 :: 129 :: 130 :: 131 :: 132 :: 133 :: 134 :: 135 :: 136 :: 137 :: 138 :: 139 :: 140 :: 141 :: 142 :: 143 :: 144 :: 145 :: 146 :: 147 :: 148 :: 149 :: 150 :: 151 :: 152 :: 153 :: 154 :: 155 :: 156 :: 157 :: 158 :: []) (fun z => [(16, iv ((z.1 + 1 : Nat) : Int)), (15, z.2.1)]) (fun z => ⟨gm, 3, ((SD (PM a b (max (endB a a.length) (endB b b.length)) s)) ++ List.replicate ((PM a b (max (endB a a.length) (endB b b.length)) s).length - (SD (PM a b (max (endB a a.length) (endB b b.length)) s)).length) 0).map (Value.int .i64) ++ junk⟩ :: ⟨g3, 52, [sv t2, iv r2, .slice A2 b.length c2]⟩ :: ⟨g2, 52, [sv t, iv r, .slice A a.length c]⟩ :: z.2.2) (fun z => z.1 + 1 ≤ (SD (PM a b (max (endB a a.length) (endB b b.length)) s)).length ∧ Row 77 2 z.2.1 (rngs (alk a b) (SD (PM a b (max (endB a a.length) (endB b b.length)) s)) z.1).length (rgC (rngs (alk a b) (SD (PM a b (max (endB a a.length) (endB b b.length)) s)) z.1)) z.2.2) (fun z => (SD (PM a b (max (endB a a.length) (endB b b.length)) s)).length - z.1) (0, .slice none 0 0, []) ⟨hS1, .nil⟩ ?_ ?_ ?_
  · exact kn_cons (by rfl) (kn_cons (by rfl) kn_nil)
  · exact (by repeat (first | exact List.Sublist.refl _ | exact List.nil_sublist _ | refine List.Sublist.cons_cons _ ?_ | refine List.Sublist.cons _ ?_ | exact Sbp.refl | exact Sbp.nil | refine Sbp.cons (by repeat (first | exact Rem.head | apply Rem.tail)) ?_ | exact Sbp.app | refine Sbp.skip ?_))
  intro z gj26 hz
  obtain ⟨k, vo, Hr⟩ := z
  obtain ⟨hk, hrow⟩ := hz
  simp only at hk hrow
  have hx := hrow.slice
  obtain ⟨Ao, co, hvo, hco1, hco2⟩ := hx
  subst hvo
  have hol := rngs_len (alk a b) (SD (PM a b (max (endB a a.length) (endB b b.length)) s)) k
  show CS _ _ _ _ _ (puts (mix _ _ _) [(16, iv ((k + 1 : Nat) : Int)), (15, (.slice Ao (rngs (alk a b) (SD (PM a b (max (endB a a.length) (endB b b.length)) s)) k).length co))]) (⟨gm, 3, ((SD (PM a b (max (endB a a.length) (endB b b.length)) s)) ++ List.replicate ((PM a b (max (endB a a.length) (endB b b.length)) s).length - (SD (PM a b (max (endB a a.length) (endB b b.length)) s)).length) 0).map (Value.int .i64) ++ junk⟩ :: ⟨g3, 52, [sv t2, iv r2, .slice A2 b.length c2]⟩ :: ⟨g2, 52, [sv t, iv r, .slice A a.length c]⟩ :: Hr)
  refine CS.seq ?_
  refine CS.seq ?_
  refine CS.region ?_
  refine RS.q rfl (QO.move) ?_
  refine RS.q rfl (QO.move) ?_
  refine RS.q rfl (QO.lenS Tryd.underlying22 (by rfl)) ?_
  refine RS.q rfl (QO.lss (by rfl) (by rfl)) ?_
  refine RS.nil ?_
  refine thenC_n ?_
  refine CS.cond (by rfl) (fun hb5 => ?_) (fun hb5 => ?_)
  · have hb5p := of_decide_eq_true hb5
    refine CS.skip ?_
    refine thenC_n ?_
    refine CS.seq ?_
    refine CS.block ?_
    refine CS.seq ?_
    refine CS.draw 11 rfl (by kernel_rfl) (by kernel_rfl) ?_
    refine RT.take (i := 0) rfl (by kernel_rfl) rfl (QO.move) ?_
    refine RT.take (i := 1) rfl (by kernel_rfl) rfl (QO.move) ?_
    refine RT.takev (i := 2) rfl (by kernel_rfl) rfl (QO.sub (by rfl) (by rfl) (by omega) (by omega)) (congrArg iv (show ((k + 1 : Nat) : Int) - 1 = (k : Int) by omega)) ?_
    refine RT.take (i := 3) rfl (by kernel_rfl) rfl (QO.idx0 Tryd.underlying22 ty3 (by rfl) (by rfl) (by rfl) (by omega)) ?_
    refine RT.take (i := 4) rfl (by kernel_rfl) rfl (QO.load ty3 (by rfl) (by repeat (first | exact List.Mem.head _ | refine List.Mem.tail _ ?_)) (sd_cell (k := k) (by omega))) ?_
    refine RT.take (i := 5) rfl (by kernel_rfl) rfl (QO.move) ?_
    refine RT.take (i := 6) rfl (by kernel_rfl) rfl (QO.move) ?_
    refine RT.take (i := 7) rfl (by kernel_rfl) rfl (QO.idx0 Tryd.underlying22 ty3 (by rfl) (by rfl) (by rfl) (by omega)) ?_
    refine RT.take (i := 8) rfl (by kernel_rfl) rfl (QO.load ty3 (by rfl) (by repeat (first | exact List.Mem.head _ | refine List.Mem.tail _ ?_)) (sd_cell (k := k + 1) (by omega))) ?_
    refine RT.take (i := 9) rfl (by kernel_rfl) rfl (QO.assign) ?_
    refine RT.take (i := 10) rfl (by kernel_rfl) rfl (QO.assign) ?_
    refine RT.done (by kernel_rfl) ?_
    refine thenC_n ?_
    refine CS.seq ?_
    refine CS.region ?_
    refine RS.q rfl (QO.loadB ty52 (by rfl) (by repeat (first | exact List.Mem.head _ | refine List.Mem.tail _ ?_)) (by rfl)) ?_
    refine RS.q rfl (QO.move) ?_
    refine RS.call rfl (by rfl) ok100 (by rfl) (fun w ho => at1 t r A a.length c a ((SD (PM a b (max (endB a a.length) (endB b b.length)) s)).getD k 0) _ rfl (hA.own ho) hEa hm) ?_
    intro v103 H103 h103
    have hx103 : ∃ i103 s103 e103, atR a ((SD (PM a b (max (endB a a.length) (endB b b.length)) s)).getD k 0) = (i103, s103, e103) := ⟨_, _, _, rfl⟩
    obtain ⟨i103, s103, e103, hR103⟩ := hx103
    rw [hR103] at h103
    have hn103 := share_num hEa ((SD (PM a b (max (endB a a.length) (endB b b.length)) s)).getD k 0)
    rw [hR103] at hn103
    have h103 : v103 = .tuple #[.agg #[iv (i103 : Nat), sv s103.reel, iv s103.frame, sv s103.back, iv s103.bf, flt s103.share], iv e103] ∧ H103 = [] := h103
    obtain ⟨rfl, rfl⟩ := h103
    refine RS.q rfl (QO.move) ?_
    refine RS.q rfl (QO.extract (by rfl) (by rfl)) ?_
    refine RS.q rfl (QO.extract (by rfl) (by rfl)) ?_
    refine RS.alloc rfl ty82 ?_
    intro g19
    refine RS.storeB ty82 (by rfl) (by rfl) (by rfl) (by rfl) (by rfl) (by repeat (first | exact Upd.head | apply Upd.tail)) (by rfl) ?_
    refine RS.q rfl (QO.assign) ?_
    refine RS.nil ?_
    refine thenC_n ?_
    refine CS.seq ?_
    refine CS.region ?_
    refine RS.q rfl (QO.loadB ty52 (by rfl) (by repeat (first | exact List.Mem.head _ | refine List.Mem.tail _ ?_)) (by rfl)) ?_
    refine RS.q rfl (QO.move) ?_
    refine RS.call rfl (by rfl) ok100 (by rfl) (fun w ho => at1 t2 r2 A2 b.length c2 b ((SD (PM a b (max (endB a a.length) (endB b b.length)) s)).getD k 0) _ rfl (hA2.own ho) hEb hm2) ?_
    intro v109 H109 h109
    have hx109 : ∃ i109 s109 e109, atR b ((SD (PM a b (max (endB a a.length) (endB b b.length)) s)).getD k 0) = (i109, s109, e109) := ⟨_, _, _, rfl⟩
    obtain ⟨i109, s109, e109, hR109⟩ := hx109
    rw [hR109] at h109
    have hn109 := share_num hEb ((SD (PM a b (max (endB a a.length) (endB b b.length)) s)).getD k 0)
    rw [hR109] at hn109
    have h109 : v109 = .tuple #[.agg #[iv (i109 : Nat), sv s109.reel, iv s109.frame, sv s109.back, iv s109.bf, flt s109.share], iv e109] ∧ H109 = [] := h109
    obtain ⟨rfl, rfl⟩ := h109
    refine RS.q rfl (QO.move) ?_
    refine RS.q rfl (QO.extract (by rfl) (by rfl)) ?_
    refine RS.q rfl (QO.extract (by rfl) (by rfl)) ?_
    refine RS.alloc rfl ty82 ?_
    intro g21
    refine RS.storeB ty82 (by rfl) (by rfl) (by rfl) (by rfl) (by rfl) (by repeat (first | exact Upd.head | apply Upd.tail)) (by rfl) ?_
    refine RS.q rfl (QO.assign) ?_
    refine RS.nil ?_
    refine thenC_n ?_
    refine CS.seq ?_
    refine CS.region ?_
    refine RS.q rfl (QO.fieldAddr fo82_0 (by rfl)) ?_
    refine RS.store1 ty3 rfl (by rfl) (by rfl) (by rfl) (by repeat (first | exact Upd.head | apply Upd.tail)) (by first | (simp; done) | (simp; omega) | omega) ?_
    refine RS.q rfl (QO.fieldAddr fo82_0 (by rfl)) ?_
    refine RS.store1 ty3 rfl (by rfl) (by rfl) (by rfl) (by repeat (first | exact Upd.head | apply Upd.tail)) (by first | (simp; done) | (simp; omega) | omega) ?_
    refine RS.nil ?_
    refine thenC_n ?_
    refine CS.cut (X := Unit) (23 :: 114 :: 115 :: 116 :: 117 :: 118 :: 119 :: 120 :: 121 :: 122 :: 123 :: 124 :: 125 :: 126 :: 127 :: 128 :: 129 :: 130 :: []) (fun z => [(23, .bool (alk a b ((SD (PM a b (max (endB a a.length) (endB b b.length)) s)).getD k 0)))]) (fun z => ⟨gm, 3, ((SD (PM a b (max (endB a a.length) (endB b b.length)) s)) ++ List.replicate ((PM a b (max (endB a a.length) (endB b b.length)) s).length - (SD (PM a b (max (endB a a.length) (endB b b.length)) s)).length) 0).map (Value.int .i64) ++ junk⟩ :: ⟨g3, 52, [sv t2, iv r2, .slice A2 b.length c2]⟩ :: ⟨g2, 52, [sv t, iv r, .slice A a.length c]⟩ :: Hr) (fun z => True) ?_ ?_
    · refine CS.draw 18 rfl (by kernel_rfl) (by kernel_rfl) ?_
      refine RT.take (i := 0) rfl (by kernel_rfl) rfl (QO.move) ?_
      refine RT.take (i := 1) rfl (by kernel_rfl) rfl (QO.move) ?_
      refine RT.take (i := 2) rfl (by kernel_rfl) rfl (QO.eql (by rfl) (by rfl)) ?_
      refine RT.take (i := 3) rfl (by kernel_rfl) rfl (QO.move) ?_
      refine RT.split (dj := 117) (by rfl) (fun hb6 => ?_) (fun hb6 => ?_)
      · have hb6p := eq_of_beq hb6
        refine RT.takeOn (i := 4) (dj := 117) rfl rfl (congrArg Value.bool hb6) (by kernel_rfl) rfl (QO.fieldAddr fo82_5 (by rfl)) ?_
        refine RT.takeOn (i := 5) (dj := 117) rfl rfl (congrArg Value.bool hb6) (by kernel_rfl) rfl (QO.load ty36 (by rfl) (by repeat (first | exact List.Mem.head _ | refine List.Mem.tail _ ?_)) (by rfl)) ?_
        refine RT.takeOn (i := 6) (dj := 117) rfl rfl (congrArg Value.bool hb6) (by kernel_rfl) rfl (QO.ext (by rfl) (ext70 _)) ?_
        refine RT.takeOn (i := 7) (dj := 117) rfl rfl (congrArg Value.bool hb6) (by kernel_rfl) rfl (QO.fieldAddr fo82_5 (by rfl)) ?_
        refine RT.takeOn (i := 8) (dj := 117) rfl rfl (congrArg Value.bool hb6) (by kernel_rfl) rfl (QO.load ty36 (by rfl) (by repeat (first | exact List.Mem.head _ | refine List.Mem.tail _ ?_)) (by rfl)) ?_
        refine RT.takeOn (i := 9) (dj := 117) rfl rfl (congrArg Value.bool hb6) (by kernel_rfl) rfl (QO.ext (by rfl) (ext70 _)) ?_
        refine RT.takeOn (i := 10) (dj := 117) rfl rfl (congrArg Value.bool hb6) (by kernel_rfl) rfl (QO.eql (by rfl) (by rfl)) ?_
        refine RT.take (i := 11) rfl (by kernel_rfl) rfl (QO.pickT (by rfl) hb6 (by rfl)) ?_
        refine RT.take (i := 12) rfl (by kernel_rfl) rfl (QO.move) ?_
        refine RT.split (dj := 126) (by rfl) (fun hb7 => ?_) (fun hb7 => ?_)
        · have hb7p := eq_of_beq hb7
          refine RT.takeOn (i := 13) (dj := 126) rfl rfl (congrArg Value.bool hb7) (by kernel_rfl) rfl (QO.loadB ty82 (by rfl) (by repeat (first | exact List.Mem.head _ | refine List.Mem.tail _ ?_)) (by rfl)) ?_
          refine RT.takeOn (i := 14) (dj := 126) rfl rfl (congrArg Value.bool hb7) (by kernel_rfl) rfl (QO.loadB ty82 (by rfl) (by repeat (first | exact List.Mem.head _ | refine List.Mem.tail _ ?_)) (by rfl)) ?_
          refine RT.takeOnv (i := 15) (dj := 126) rfl rfl (congrArg Value.bool hb7) (by kernel_rfl) rfl (QO.seqlM (fdS s103) (fdS s109) mix82 (by rfl) (by rfl) rfl rfl) (congrArg Value.bool (alk_c hR103 hR109 (by assumption) (by omega) hn103)) ?_
          refine RT.take (i := 16) rfl (by kernel_rfl) rfl (QO.pickT (by rfl) hb7 (by rfl)) ?_
          refine RT.take (i := 17) rfl (by kernel_rfl) rfl (QO.assign) ?_
          refine RT.done (by kernel_rfl) ?_
          refine cutQ_n (by intro t ht; repeat (first | with_reducible exact rfl | exact frame_puts ht (frame_mix ht) _ rfl | (refine frame_put rfl ht ?_) | (refine frame_puts ht ?_ _ rfl) | exact frame_mix ht | (refine frame_mix2 rfl ht ?_) | exact rfl)) ?_
          exact ⟨(), trivial, kn_cons (by rfl) kn_nil, (by repeat (first | exact List.Sublist.refl _ | exact List.nil_sublist _ | refine List.Sublist.cons_cons _ ?_ | refine List.Sublist.cons _ ?_ | exact Sbp.refl | exact Sbp.nil | refine Sbp.cons (by repeat (first | exact Rem.head | apply Rem.tail)) ?_ | exact Sbp.app | refine Sbp.skip ?_))⟩
        have hb7p := ne_of_beq_false hb7
        refine RT.takeOff (i := 13) (dj := 126) rfl rfl (.inl (congrArg Value.bool hb7)) (fun _ => rfl) (by kernel_rfl) rfl ?_
        refine RT.takeOff (i := 14) (dj := 126) rfl rfl (.inl (congrArg Value.bool hb7)) (fun _ => rfl) (by kernel_rfl) rfl ?_
        refine RT.takeOff (i := 15) (dj := 126) rfl rfl (.inl (congrArg Value.bool hb7)) (fun _ => rfl) (by kernel_rfl) rfl ?_
        refine RT.take (i := 16) rfl (by kernel_rfl) rfl (QO.pickF (by rfl) hb7 (by rfl)) ?_
        refine RT.take (i := 17) rfl (by kernel_rfl) rfl (QO.assign) ?_
        refine RT.done (by kernel_rfl) ?_
        refine cutQ_n (by intro t ht; repeat (first | with_reducible exact rfl | exact frame_puts ht (frame_mix ht) _ rfl | (refine frame_put rfl ht ?_) | (refine frame_puts ht ?_ _ rfl) | exact frame_mix ht | (refine frame_mix2 rfl ht ?_) | exact rfl)) ?_
        exact ⟨(), trivial, kn_cons (congrArg Value.bool (alk_b hR103 hR109 (by omega))) kn_nil, (by repeat (first | exact List.Sublist.refl _ | exact List.nil_sublist _ | refine List.Sublist.cons_cons _ ?_ | refine List.Sublist.cons _ ?_ | exact Sbp.refl | exact Sbp.nil | refine Sbp.cons (by repeat (first | exact Rem.head | apply Rem.tail)) ?_ | exact Sbp.app | refine Sbp.skip ?_))⟩
      have hb6p := ne_of_beq_false hb6
      refine RT.takeOff (i := 4) (dj := 117) rfl rfl (.inl (congrArg Value.bool hb6)) (fun _ => rfl) (by kernel_rfl) rfl ?_
      refine RT.takeOff (i := 5) (dj := 117) rfl rfl (.inl (congrArg Value.bool hb6)) (fun _ => rfl) (by kernel_rfl) rfl ?_
      refine RT.takeOff (i := 6) (dj := 117) rfl rfl (.inl (congrArg Value.bool hb6)) (fun _ => rfl) (by kernel_rfl) rfl ?_
      refine RT.takeOff (i := 7) (dj := 117) rfl rfl (.inl (congrArg Value.bool hb6)) (fun _ => rfl) (by kernel_rfl) rfl ?_
      refine RT.takeOff (i := 8) (dj := 117) rfl rfl (.inl (congrArg Value.bool hb6)) (fun _ => rfl) (by kernel_rfl) rfl ?_
      refine RT.takeOff (i := 9) (dj := 117) rfl rfl (.inl (congrArg Value.bool hb6)) (fun _ => rfl) (by kernel_rfl) rfl ?_
      refine RT.takeOff (i := 10) (dj := 117) rfl rfl (.inl (congrArg Value.bool hb6)) (fun _ => rfl) (by kernel_rfl) rfl ?_
      refine RT.take (i := 11) rfl (by kernel_rfl) rfl (QO.pickF (by rfl) hb6 (by rfl)) ?_
      refine RT.take (i := 12) rfl (by kernel_rfl) rfl (QO.move) ?_
      refine RT.takeOff (i := 13) (dj := 126) rfl rfl (.inl (congrArg Value.bool rfl)) (fun _ => rfl) (by kernel_rfl) rfl ?_
      refine RT.takeOff (i := 14) (dj := 126) rfl rfl (.inl (congrArg Value.bool rfl)) (fun _ => rfl) (by kernel_rfl) rfl ?_
      refine RT.takeOff (i := 15) (dj := 126) rfl rfl (.inl (congrArg Value.bool rfl)) (fun _ => rfl) (by kernel_rfl) rfl ?_
      refine RT.take (i := 16) rfl (by kernel_rfl) rfl (QO.pickF (by rfl) rfl (by rfl)) ?_
      refine RT.take (i := 17) rfl (by kernel_rfl) rfl (QO.assign) ?_
      refine RT.done (by kernel_rfl) ?_
      refine cutQ_n (by intro t ht; repeat (first | with_reducible exact rfl | exact frame_puts ht (frame_mix ht) _ rfl | (refine frame_put rfl ht ?_) | (refine frame_puts ht ?_ _ rfl) | exact frame_mix ht | (refine frame_mix2 rfl ht ?_) | exact rfl)) ?_
      exact ⟨(), trivial, kn_cons (congrArg Value.bool (alk_e hR103 hR109 (by assumption))) kn_nil, (by repeat (first | exact List.Sublist.refl _ | exact List.nil_sublist _ | refine List.Sublist.cons_cons _ ?_ | refine List.Sublist.cons _ ?_ | exact Sbp.refl | exact Sbp.nil | refine Sbp.cons (by repeat (first | exact Rem.head | apply Rem.tail)) ?_ | exact Sbp.app | refine Sbp.skip ?_))⟩
    intro z gj hz
    clear hz
    refine CS.seq ?_
    refine CS.region ?_
    refine RS.q rfl (QO.move) ?_
    refine RS.q rfl (QO.lenS Tryd.underlying71 (by rfl)) ?_
    refine RS.q rfl (QO.sub (by rfl) (by rfl) (by omega) (by omega)) ?_
    refine RS.q rfl (QO.assign) ?_
    refine RS.nil ?_
    refine thenC_n ?_
    refine CS.block ?_
    refine CS.seq ?_
    refine CS.region ?_
    refine RS.q rfl (QO.move) ?_
    refine RS.q rfl (QO.assign) ?_
    refine RS.nil ?_
    refine thenC_n ?_
    refine CS.cond (by rfl) (fun hb8 => ?_) (fun hb8 => ?_)
    · refine CS.skip ?_
      refine blockC_n ?_
      refine blockC_n ?_
      refine thenC_n ?_
      refine CS.region ?_
      refine RS.q rfl (QO.move) ?_
      refine RS.q rfl (QO.add (by rfl) (by rfl) (by omega) (by omega)) ?_
      refine RS.q rfl (QO.assign) ?_
      refine RS.nil ?_
      refine loopQ_n (by intro t ht; repeat (first | with_reducible exact rfl | exact frame_puts ht (frame_mix ht) _ rfl | (refine frame_put rfl ht ?_) | (refine frame_puts ht ?_ _ rfl) | exact frame_mix ht | (refine frame_mix2 rfl ht ?_) | exact rfl)) ?_
      exact ⟨(k + 1, (.slice Ao (rngs (alk a b) (SD (PM a b (max (endB a a.length) (endB b b.length)) s)) k).length co), Hr), ⟨by show k + 1 + 1 ≤ (SD (PM a b (max (endB a a.length) (endB b b.length)) s)).length; omega, by show Row 77 2 _ (stepR (rngs (alk a b) (SD (PM a b (max (endB a a.length) (endB b b.length)) s)) k) ((SD (PM a b (max (endB a a.length) (endB b b.length)) s)).getD k 0) ((SD (PM a b (max (endB a a.length) (endB b b.length)) s)).getD (k + 1) 0) (alk a b ((SD (PM a b (max (endB a a.length) (endB b b.length)) s)).getD k 0))).length (rgC (stepR (rngs (alk a b) (SD (PM a b (max (endB a a.length) (endB b b.length)) s)) k) ((SD (PM a b (max (endB a a.length) (endB b b.length)) s)).getD k 0) ((SD (PM a b (max (endB a a.length) (endB b b.length)) s)).getD (k + 1) 0) (alk a b ((SD (PM a b (max (endB a a.length) (endB b b.length)) s)).getD k 0)))) _; rw [step_T (by assumption)]; exact hrow⟩, by show (SD (PM a b (max (endB a a.length) (endB b b.length)) s)).length - (k + 1) < (SD (PM a b (max (endB a a.length) (endB b b.length)) s)).length - k; omega, kn_cons (by rfl) (kn_cons (by rfl) kn_nil), (by repeat (first | exact List.Sublist.refl _ | exact List.nil_sublist _ | refine List.Sublist.cons_cons _ ?_ | refine List.Sublist.cons _ ?_ | exact Sbp.refl | exact Sbp.nil | refine Sbp.cons (by repeat (first | exact Rem.head | apply Rem.tail)) ?_ | exact Sbp.app | refine Sbp.skip ?_))⟩
    refine CS.seq ?_
    by_cases hsp36 : (rngs (alk a b) (SD (PM a b (max (endB a a.length) (endB b b.length)) s)) k).length = 0
    · refine CS.region ?_
      refine RS.q rfl (QO.move) ?_
      refine RS.q rfl (QO.geq (by rfl) (by rfl)) ?_
      refine RS.q rfl (QO.move) ?_
      refine RS.off (dj := 145) rfl (.inl (congrArg Value.bool (decide_eq_false (by omega)))) (fun _ => rfl) rfl ?_
      refine RS.off (dj := 145) rfl (.inl (congrArg Value.bool (decide_eq_false (by omega)))) (fun _ => rfl) rfl ?_
      refine RS.off (dj := 145) rfl (.inl (congrArg Value.bool (decide_eq_false (by omega)))) (fun _ => rfl) rfl ?_
      refine RS.off (dj := 145) rfl (.inl (congrArg Value.bool (decide_eq_false (by omega)))) (fun _ => rfl) rfl ?_
      refine RS.off (dj := 145) rfl (.inl (congrArg Value.bool (decide_eq_false (by omega)))) (fun _ => rfl) rfl ?_
      refine RS.off (dj := 145) rfl (.inl (congrArg Value.bool (decide_eq_false (by omega)))) (fun _ => rfl) rfl ?_
      refine RS.off (dj := 145) rfl (.inl (congrArg Value.bool (decide_eq_false (by omega)))) (fun _ => rfl) rfl ?_
      refine RS.q rfl (QO.pickF (by rfl) (decide_eq_false (by omega)) (by rfl)) ?_
      refine RS.q rfl (QO.assign) ?_
      refine RS.nil ?_
      refine thenC_n ?_
      refine CS.condF (by rfl) rfl ?_
      refine CS.region ?_
      refine RS.q rfl (QO.move) ?_
      refine RS.q rfl (QO.move) ?_
      refine RS.q rfl (QO.move) ?_
      refine RS.q rfl (QO.build ty77 pl77 (by rfl)) ?_
      refine RS.buildSlice rfl Tryd.underlying71 ty77 (by decide) (by decide) (by rfl) (by rfl) ?_
      intro g138
      refine RS.appendRow rfl Tryd.underlying71 ty77 (by rfl) hrow (by repeat (first | exact Suf.base | apply Suf.cons)) (by rfl) (Src.blk (by repeat (first | exact List.Mem.head _ | refine List.Mem.tail _ ?_))) (by rfl) (by rfl) (by decide) (by decide) (by unfold maxLen; omega) (by omega) ?_
      intro v139 H139 hrow139
      refine RS.q rfl (QO.assign) ?_
      refine RS.nil ?_
      refine blockC_n ?_
      refine blockC_n ?_
      refine thenC_n ?_
      refine CS.region ?_
      refine RS.q rfl (QO.move) ?_
      refine RS.q rfl (QO.add (by rfl) (by rfl) (by omega) (by omega)) ?_
      refine RS.q rfl (QO.assign) ?_
      refine RS.nil ?_
      refine loopQ_n (by intro t ht; repeat (first | with_reducible exact rfl | exact frame_puts ht (frame_mix ht) _ rfl | (refine frame_put rfl ht ?_) | (refine frame_puts ht ?_ _ rfl) | exact frame_mix ht | (refine frame_mix2 rfl ht ?_) | exact rfl)) ?_
      exact ⟨(k + 1, v139, H139), ⟨by show k + 1 + 1 ≤ (SD (PM a b (max (endB a a.length) (endB b b.length)) s)).length; omega, by show Row 77 2 _ (stepR (rngs (alk a b) (SD (PM a b (max (endB a a.length) (endB b b.length)) s)) k) ((SD (PM a b (max (endB a a.length) (endB b b.length)) s)).getD k 0) ((SD (PM a b (max (endB a a.length) (endB b b.length)) s)).getD (k + 1) 0) (alk a b ((SD (PM a b (max (endB a a.length) (endB b b.length)) s)).getD k 0))).length (rgC (stepR (rngs (alk a b) (SD (PM a b (max (endB a a.length) (endB b b.length)) s)) k) ((SD (PM a b (max (endB a a.length) (endB b b.length)) s)).getD k 0) ((SD (PM a b (max (endB a a.length) (endB b b.length)) s)).getD (k + 1) 0) (alk a b ((SD (PM a b (max (endB a a.length) (endB b b.length)) s)).getD k 0)))) _; rw [step_A (by assumption) (.inl hsp36), rgC_app, List.length_append]; exact hrow139⟩, by show (SD (PM a b (max (endB a a.length) (endB b b.length)) s)).length - (k + 1) < (SD (PM a b (max (endB a a.length) (endB b b.length)) s)).length - k; omega, kn_cons (by rfl) (kn_cons (by rfl) kn_nil), (by repeat (first | exact List.Sublist.refl _ | exact List.nil_sublist _ | refine List.Sublist.cons_cons _ ?_ | refine List.Sublist.cons _ ?_ | exact Sbp.refl | exact Sbp.nil | refine Sbp.cons (by repeat (first | exact Rem.head | apply Rem.tail)) ?_ | exact Sbp.app | refine Sbp.skip ?_))⟩
    refine CS.region ?_
    have hx := hrow.some2 (by omega)
    obtain ⟨go, cap2, junk2, hvo2, hHo, _, _, _, hjl⟩ := hx
    injection hvo2 with hv1 hv2 hv3
    subst hv1
    subst hv3
    subst hHo
    refine RS.q rfl (QO.move) ?_
    refine RS.q rfl (QO.geq (by rfl) (by rfl)) ?_
    refine RS.q rfl (QO.move) ?_
    refine RS.on (dj := 145) rfl (congrArg Value.bool (decide_eq_true (by omega))) ?_
    refine RS.q rfl (QO.move) ?_
    refine RS.on (dj := 145) rfl (congrArg Value.bool (decide_eq_true (by omega))) ?_
    refine RS.qv rfl (QO.move) (congrArg iv (show ((rngs (alk a b) (SD (PM a b (max (endB a a.length) (endB b b.length)) s)) k).length : Int) - 1 = (((rngs (alk a b) (SD (PM a b (max (endB a a.length) (endB b b.length)) s)) k).length - 1 : Nat) : Int) by omega)) ?_
    refine RS.on (dj := 145) rfl (congrArg Value.bool (decide_eq_true (by omega))) ?_
    refine RS.qv rfl (QO.idx Tryd.underlying71 ty77 (by rfl) (by rfl) (by omega) (by omega)) (congrArg (fun o => Value.pointer (some ⟨go, o, none⟩)) (Nat.zero_add _)) ?_
    refine RS.on (dj := 145) rfl (congrArg Value.bool (decide_eq_true (by omega))) ?_
    refine RS.q rfl (QO.fieldAddr fo77_1 (by rfl)) ?_
    refine RS.on (dj := 145) rfl (congrArg Value.bool (decide_eq_true (by omega))) ?_
    refine RS.q rfl (QO.load ty3 (by rfl) (by repeat (first | exact List.Mem.head _ | refine List.Mem.tail _ ?_)) (rg_cell (by omega))) ?_
    refine RS.on (dj := 145) rfl (congrArg Value.bool (decide_eq_true (by omega))) ?_
    refine RS.q rfl (QO.move) ?_
    refine RS.on (dj := 145) rfl (congrArg Value.bool (decide_eq_true (by omega))) ?_
    refine RS.q rfl (QO.eql (by rfl) (by rfl)) ?_
    refine RS.q rfl (QO.pickT (by rfl) (decide_eq_true (by omega)) (by rfl)) ?_
    refine RS.q rfl (QO.assign) ?_
    refine RS.nil ?_
    refine thenC_n ?_
    refine CS.cond (by rfl) (fun hb9 => ?_) (fun hb9 => ?_)
    · have hb9p := eq_of_beq hb9
      refine CS.region ?_
      refine RS.q rfl (QO.move) ?_
      refine RS.qv rfl (QO.move) (congrArg iv (show ((rngs (alk a b) (SD (PM a b (max (endB a a.length) (endB b b.length)) s)) k).length : Int) - 1 = (((rngs (alk a b) (SD (PM a b (max (endB a a.length) (endB b b.length)) s)) k).length - 1 : Nat) : Int) by omega)) ?_
      refine RS.q rfl (QO.move) ?_
      refine RS.qv rfl (QO.idx Tryd.underlying71 ty77 (by rfl) (by rfl) (by omega) (by omega)) (congrArg (fun o => Value.pointer (some ⟨go, o, none⟩)) (Nat.zero_add _)) ?_
      refine RS.q rfl (QO.fieldAddr fo77_1 (by rfl)) ?_
      refine RS.store1e ty3 rfl (by rfl) (by rfl) (by rfl) (rg_set hsp36) (by repeat (first | exact Upd.head | apply Upd.tail)) (by rw [List.length_append, rgC_len]; omega) ?_
      refine RS.nil ?_
      refine blockC_n ?_
      refine blockC_n ?_
      refine thenC_n ?_
      refine CS.region ?_
      refine RS.q rfl (QO.move) ?_
      refine RS.q rfl (QO.add (by rfl) (by rfl) (by omega) (by omega)) ?_
      refine RS.q rfl (QO.assign) ?_
      refine RS.nil ?_
      refine loopQ_n (by intro t ht; repeat (first | with_reducible exact rfl | exact frame_puts ht (frame_mix ht) _ rfl | (refine frame_put rfl ht ?_) | (refine frame_puts ht ?_ _ rfl) | exact frame_mix ht | (refine frame_mix2 rfl ht ?_) | exact rfl)) ?_
      exact ⟨(k + 1, (.slice (some ⟨go, 0, none⟩) (rngs (alk a b) (SD (PM a b (max (endB a a.length) (endB b b.length)) s)) k).length co), [⟨go, 77, rgC ((rngs (alk a b) (SD (PM a b (max (endB a a.length) (endB b b.length)) s)) k).dropLast ++ [((lastR (rngs (alk a b) (SD (PM a b (max (endB a a.length) (endB b b.length)) s)) k)).1, (SD (PM a b (max (endB a a.length) (endB b b.length)) s)).getD (k + 1) 0)]) ++ junk2⟩]), ⟨by show k + 1 + 1 ≤ (SD (PM a b (max (endB a a.length) (endB b b.length)) s)).length; omega, by show Row 77 2 _ (stepR (rngs (alk a b) (SD (PM a b (max (endB a a.length) (endB b b.length)) s)) k) ((SD (PM a b (max (endB a a.length) (endB b b.length)) s)).getD k 0) ((SD (PM a b (max (endB a a.length) (endB b b.length)) s)).getD (k + 1) 0) (alk a b ((SD (PM a b (max (endB a a.length) (endB b b.length)) s)).getD k 0))).length (rgC (stepR (rngs (alk a b) (SD (PM a b (max (endB a a.length) (endB b b.length)) s)) k) ((SD (PM a b (max (endB a a.length) (endB b b.length)) s)).getD k 0) ((SD (PM a b (max (endB a a.length) (endB b b.length)) s)).getD (k + 1) 0) (alk a b ((SD (PM a b (max (endB a a.length) (endB b b.length)) s)).getD k 0)))) _; rw [step_M (by assumption) hsp36 (by assumption)]; exact row_merge hsp36 hco1 hco2 hjl⟩, by show (SD (PM a b (max (endB a a.length) (endB b b.length)) s)).length - (k + 1) < (SD (PM a b (max (endB a a.length) (endB b b.length)) s)).length - k; omega, kn_cons (by rfl) (kn_cons (by rfl) kn_nil), (by repeat (first | exact List.Sublist.refl _ | exact List.nil_sublist _ | refine List.Sublist.cons_cons _ ?_ | refine List.Sublist.cons _ ?_ | exact Sbp.refl | exact Sbp.nil | refine Sbp.cons (by repeat (first | exact Rem.head | apply Rem.tail)) ?_ | exact Sbp.app | refine Sbp.skip ?_))⟩
    have hb9p := ne_of_beq_false hb9
    refine CS.region ?_
    refine RS.q rfl (QO.move) ?_
    refine RS.q rfl (QO.move) ?_
    refine RS.q rfl (QO.move) ?_
    refine RS.q rfl (QO.build ty77 pl77 (by rfl)) ?_
    refine RS.buildSlice rfl Tryd.underlying71 ty77 (by decide) (by decide) (by rfl) (by rfl) ?_
    intro g138
    refine RS.appendRow rfl Tryd.underlying71 ty77 (by rfl) hrow (by repeat (first | exact Suf.base | apply Suf.cons)) (by rfl) (Src.blk (by repeat (first | exact List.Mem.head _ | refine List.Mem.tail _ ?_))) (by rfl) (by rfl) (by decide) (by decide) (by unfold maxLen; omega) (by omega) ?_
    intro v139 H139 hrow139
    refine RS.q rfl (QO.assign) ?_
    refine RS.nil ?_
    refine blockC_n ?_
    refine blockC_n ?_
    refine thenC_n ?_
    refine CS.region ?_
    refine RS.q rfl (QO.move) ?_
    refine RS.q rfl (QO.add (by rfl) (by rfl) (by omega) (by omega)) ?_
    refine RS.q rfl (QO.assign) ?_
    refine RS.nil ?_
    refine loopQ_n (by intro t ht; repeat (first | with_reducible exact rfl | exact frame_puts ht (frame_mix ht) _ rfl | (refine frame_put rfl ht ?_) | (refine frame_puts ht ?_ _ rfl) | exact frame_mix ht | (refine frame_mix2 rfl ht ?_) | exact rfl)) ?_
    exact ⟨(k + 1, v139, H139), ⟨by show k + 1 + 1 ≤ (SD (PM a b (max (endB a a.length) (endB b b.length)) s)).length; omega, by show Row 77 2 _ (stepR (rngs (alk a b) (SD (PM a b (max (endB a a.length) (endB b b.length)) s)) k) ((SD (PM a b (max (endB a a.length) (endB b b.length)) s)).getD k 0) ((SD (PM a b (max (endB a a.length) (endB b b.length)) s)).getD (k + 1) 0) (alk a b ((SD (PM a b (max (endB a a.length) (endB b b.length)) s)).getD k 0))).length (rgC (stepR (rngs (alk a b) (SD (PM a b (max (endB a a.length) (endB b b.length)) s)) k) ((SD (PM a b (max (endB a a.length) (endB b b.length)) s)).getD k 0) ((SD (PM a b (max (endB a a.length) (endB b b.length)) s)).getD (k + 1) 0) (alk a b ((SD (PM a b (max (endB a a.length) (endB b b.length)) s)).getD k 0)))) _; rw [step_A (by assumption) (.inr (by assumption)), rgC_app, List.length_append]; exact hrow139⟩, by show (SD (PM a b (max (endB a a.length) (endB b b.length)) s)).length - (k + 1) < (SD (PM a b (max (endB a a.length) (endB b b.length)) s)).length - k; omega, kn_cons (by rfl) (kn_cons (by rfl) kn_nil), (by repeat (first | exact List.Sublist.refl _ | exact List.nil_sublist _ | refine List.Sublist.cons_cons _ ?_ | refine List.Sublist.cons _ ?_ | exact Sbp.refl | exact Sbp.nil | refine Sbp.cons (by repeat (first | exact Rem.head | apply Rem.tail)) ?_ | exact Sbp.app | refine Sbp.skip ?_))⟩
  have hb5p := of_decide_eq_false hb5
  refine CS.exit ?_
  refine thenC_x ?_
  refine loopQ_x ?_
  refine blockC_x ?_
  refine thenC_n ?_
  refine CS.seq ?_
  refine CS.region ?_
  refine RS.q rfl (QO.move) ?_
  refine RS.q rfl (QO.assign) ?_
  refine RS.q rfl (QO.assign) ?_
  refine RS.nil ?_
  refine thenC_n ?_
  refine CS.ret ?_
  refine retQ.mk (H' := Hr) (.inr rfl) (RVs.tmp (by rfl) (RVs.tmp (by rfl) RVs.nil)) (by repeat (first | exact List.Sublist.refl _ | exact List.nil_sublist _ | refine List.Sublist.cons_cons _ ?_ | refine List.Sublist.cons _ ?_ | exact Sbp.refl | exact Sbp.nil | refine Sbp.cons (by repeat (first | exact Rem.head | apply Rem.tail)) ?_ | exact Sbp.app | refine Sbp.skip ?_)) ?_
  have hs22 : s = 2 := by omega
  have hke : k = (SD (PM a b (max (endB a a.length) (endB b b.length)) s)).length - 1 := by omega
  rw [hke, hs22] at hrow
  exact .inr ⟨by unfold cmpE; rw [if_neg (by simp [hEa])]; exact hEb, _, rfl, by rw [hke, hs22]; exact hrow⟩

end Go.Proofs.YtapcgokcfmklbaaDoor
