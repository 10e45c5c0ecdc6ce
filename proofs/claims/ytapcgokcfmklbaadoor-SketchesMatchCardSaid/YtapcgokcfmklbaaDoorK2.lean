/-
  Contracts: Sketch, SketchesMatch. Conditions: as each theorem says.
-/
import Derived.Test.YtapcgokcfmklbaaDoorK1
namespace Go.Proofs.YtapcgokcfmklbaaDoor
open Go Go.Proofs Go.RowKit

theorem ty5 : tyChk Tryd.prog 5 = some ([.int .u8 0], false, 1) := by kernel_rfl
theorem ty22 : tyChk Tryd.prog 22 = some ([.slice none 0 0], false, 24) := by kernel_rfl
theorem ty24 : tyChk Tryd.prog 24 = some ([.slice none 0 0, .int .i64 0, .int .i64 0, .int .i64 0], true, 48) := by kernel_rfl
theorem fo24_0 : fldOff Tryd.prog 24 0 = some (0, 22) := by kernel_rfl
theorem ok12 : callOK Tryd.prog 12 = true := by kernel_rfl
theorem ok13 : callOK Tryd.prog 13 = true := by kernel_rfl
theorem ok59 : callOK Tryd.prog 59 = true := by kernel_rfl
theorem ok61 : callOK Tryd.prog 61 = true := by kernel_rfl
theorem ok62 : callOK Tryd.prog 62 = true := by kernel_rfl
theorem ok63 : callOK Tryd.prog 63 = true := by kernel_rfl
theorem ok64 : callOK Tryd.prog 64 = true := by kernel_rfl
theorem ok65 : callOK Tryd.prog 65 = true := by kernel_rfl

set_option maxHeartbeats 4000000 in
set_option maxRecDepth 100000 in
theorem sketch (A : Option Addr) (c : Nat) (l : List Int) (x1 x2 x3 h : Int) (W : World) (hA : IS W A l) (hm : l.length ≤ maxLen) : Fn_ Tryd.prog 12 #[.agg #[.slice A l.length c, iv x1, iv x2, iv x3], iv h] W (fun v H => v = sktV l h ∧ H = []) := by
  refine Fn_.intro Tryd.func12 rfl rfl (by rfl) ?_
  refine CS.seq ?_
  refine CS.region ?_
  refine RS.box rfl (by rfl) (by rfl) ?_
  intro g2
  refine RS.q rfl (QO.assign) ?_
  refine RS.q rfl (QO.assign) ?_
  refine RS.nil ?_
  refine thenC_n ?_
  refine CS.seq ?_
  refine CS.block ?_
  refine CS.seq ?_
  refine CS.region ?_
  refine RS.q rfl (QO.fieldAddr fo24_0 (by rfl)) ?_
  first | (refine RS.q rfl (QO.load ty22 (by rfl) (by repeat (first | exact List.Mem.head _ | refine List.Mem.tail _ ?_)) (by rfl)) ?_) | (refine RS.q rfl (QO.loadO ty22 (by rfl) (by assumption)) ?_) | (refine RS.q rfl (QO.load ty22 (by rfl) (by repeat (first | exact List.Mem.head _ | refine List.Mem.tail _ ?_)) (by assumption)) ?_)
  refine RS.q rfl (QO.lenS Tryd.underlying22 (by rfl)) ?_
  refine RS.q rfl (QO.eql (by rfl) (by rfl)) ?_
  refine RS.q rfl (QO.assign) ?_
  refine RS.nil ?_
  refine thenC_n ?_
  refine CS.cond (by rfl) (fun hb0 => ?_) (fun hb0 => ?_)
  · have hb0p := eq_of_beq hb0
    refine CS.seq ?_
    refine CS.region ?_
    refine RS.q rfl (QO.assign) ?_
    refine RS.q rfl (QO.assign) ?_
    refine RS.nil ?_
    refine thenC_n ?_
    refine CS.ret ?_
    refine blockC_r ?_
    refine thenC_r ?_
    refine retQ.mk (H' := []) (.inr rfl) (RVs.tmp (by rfl) (RVs.tmp (by rfl) RVs.nil)) (List.nil_sublist _) ?_
    first | exact ⟨sk_a (by assumption), rfl⟩ | exact ⟨sk_b (by assumption), rfl⟩ | exact ⟨sk_c (by assumption) (by omega) (.inl (by omega)), rfl⟩ | exact ⟨sk_c (by assumption) (by omega) (.inr (by assumption)), rfl⟩
  · have hb0p := ne_of_beq_false hb0
    refine CS.seq ?_
    refine CS.region ?_
    refine RS.q rfl (QO.fieldAddr fo24_0 (by rfl)) ?_
    first | (refine RS.q rfl (QO.load ty22 (by rfl) (by repeat (first | exact List.Mem.head _ | refine List.Mem.tail _ ?_)) (by rfl)) ?_) | (refine RS.q rfl (QO.loadO ty22 (by rfl) (by assumption)) ?_) | (refine RS.q rfl (QO.load ty22 (by rfl) (by repeat (first | exact List.Mem.head _ | refine List.Mem.tail _ ?_)) (by assumption)) ?_)
    refine RS.q rfl (QO.lenS Tryd.underlying22 (by rfl)) ?_
    refine RS.q rfl (QO.gtr (by rfl) (by rfl)) ?_
    refine RS.q rfl (QO.assign) ?_
    refine RS.nil ?_
    refine thenC_n ?_
    refine CS.cond (by rfl) (fun hb1 => ?_) (fun hb1 => ?_)
    · have hb1p := of_decide_eq_true hb1
      refine CS.seq ?_
      refine CS.region ?_
      refine RS.q rfl (QO.assign) ?_
      refine RS.q rfl (QO.assign) ?_
      refine RS.nil ?_
      refine thenC_n ?_
      refine CS.ret ?_
      refine blockC_r ?_
      refine thenC_r ?_
      refine retQ.mk (H' := []) (.inr rfl) (RVs.tmp (by rfl) (RVs.tmp (by rfl) RVs.nil)) (List.nil_sublist _) ?_
      first | exact ⟨sk_a (by assumption), rfl⟩ | exact ⟨sk_b (by assumption), rfl⟩ | exact ⟨sk_c (by assumption) (by omega) (.inl (by omega)), rfl⟩ | exact ⟨sk_c (by assumption) (by omega) (.inr (by assumption)), rfl⟩
    · have hb1p := of_decide_eq_false hb1
      refine CS.seq ?_
      refine CS.region ?_
      refine RS.q rfl (QO.move) ?_
      refine RS.q rfl (QO.lss (by rfl) (by rfl)) ?_
      refine RS.q rfl (QO.move) ?_
      refine RS.split (dj := 25) (by rfl) (fun hb2 => ?_) (fun hb2 => ?_)
      · have hb2p := of_decide_eq_true hb2
        refine RS.off (dj := 25) rfl (.inl (congrArg Value.bool hb2)) (fun _ => rfl) rfl ?_
        refine RS.off (dj := 25) rfl (.inl (congrArg Value.bool hb2)) (fun _ => rfl) rfl ?_
        refine RS.q rfl (QO.pickT (by rfl) hb2 (by rfl)) ?_
        refine RS.q rfl (QO.move) ?_
        refine RS.off (dj := 29) rfl (.inl (congrArg Value.bool rfl)) (fun _ => rfl) rfl ?_
        refine RS.off (dj := 29) rfl (.inl (congrArg Value.bool rfl)) (fun _ => rfl) rfl ?_
        refine RS.off (dj := 29) rfl (.inl (congrArg Value.bool rfl)) (fun _ => rfl) rfl ?_
        refine RS.q rfl (QO.pickT (by rfl) rfl (by rfl)) ?_
        refine RS.q rfl (QO.assign) ?_
        refine RS.nil ?_
        refine thenC_n ?_
        refine CS.condT (by rfl) rfl ?_
        refine CS.seq ?_
        refine CS.region ?_
        refine RS.q rfl (QO.assign) ?_
        refine RS.q rfl (QO.assign) ?_
        refine RS.nil ?_
        refine thenC_n ?_
        refine CS.ret ?_
        refine blockC_r ?_
        refine thenC_r ?_
        refine retQ.mk (H' := []) (.inr rfl) (RVs.tmp (by rfl) (RVs.tmp (by rfl) RVs.nil)) (List.nil_sublist _) ?_
        first | exact ⟨sk_a (by assumption), rfl⟩ | exact ⟨sk_b (by assumption), rfl⟩ | exact ⟨sk_c (by assumption) (by omega) (.inl (by omega)), rfl⟩ | exact ⟨sk_c (by assumption) (by omega) (.inr (by assumption)), rfl⟩
      · have hb2p := of_decide_eq_false hb2
        refine RS.on (dj := 25) rfl (congrArg Value.bool hb2) ?_
        refine RS.q rfl (QO.move) ?_
        refine RS.on (dj := 25) rfl (congrArg Value.bool hb2) ?_
        refine RS.q rfl (QO.gtr (by rfl) (by rfl)) ?_
        refine RS.q rfl (QO.pickF (by rfl) hb2 (by rfl)) ?_
        refine RS.q rfl (QO.move) ?_
        refine RS.split (dj := 29) (by rfl) (fun hb3 => ?_) (fun hb3 => ?_)
        · have hb3p := of_decide_eq_true hb3
          refine RS.off (dj := 29) rfl (.inl (congrArg Value.bool hb3)) (fun _ => rfl) rfl ?_
          refine RS.off (dj := 29) rfl (.inl (congrArg Value.bool hb3)) (fun _ => rfl) rfl ?_
          refine RS.off (dj := 29) rfl (.inl (congrArg Value.bool hb3)) (fun _ => rfl) rfl ?_
          refine RS.q rfl (QO.pickT (by rfl) hb3 (by rfl)) ?_
          refine RS.q rfl (QO.assign) ?_
          refine RS.nil ?_
          refine thenC_n ?_
          refine CS.condT (by rfl) rfl ?_
          refine CS.seq ?_
          refine CS.region ?_
          refine RS.q rfl (QO.assign) ?_
          refine RS.q rfl (QO.assign) ?_
          refine RS.nil ?_
          refine thenC_n ?_
          refine CS.ret ?_
          refine blockC_r ?_
          refine thenC_r ?_
          refine retQ.mk (H' := []) (.inr rfl) (RVs.tmp (by rfl) (RVs.tmp (by rfl) RVs.nil)) (List.nil_sublist _) ?_
          first | exact ⟨sk_a (by assumption), rfl⟩ | exact ⟨sk_b (by assumption), rfl⟩ | exact ⟨sk_c (by assumption) (by omega) (.inl (by omega)), rfl⟩ | exact ⟨sk_c (by assumption) (by omega) (.inr (by assumption)), rfl⟩
        · have hb3p := of_decide_eq_false hb3
          refine RS.on (dj := 29) rfl (congrArg Value.bool hb3) ?_
          refine RS.q rfl (QO.fieldAddr fo24_0 (by rfl)) ?_
          refine RS.on (dj := 29) rfl (congrArg Value.bool hb3) ?_
          first | (refine RS.q rfl (QO.load ty22 (by rfl) (by repeat (first | exact List.Mem.head _ | refine List.Mem.tail _ ?_)) (by rfl)) ?_) | (refine RS.q rfl (QO.loadO ty22 (by rfl) (by assumption)) ?_) | (refine RS.q rfl (QO.load ty22 (by rfl) (by repeat (first | exact List.Mem.head _ | refine List.Mem.tail _ ?_)) (by assumption)) ?_)
          refine RS.on (dj := 29) rfl (congrArg Value.bool hb3) ?_
          refine RS.call rfl (by rfl) ok59 (by rfl) (fun w ho => containsO A l.length c l _ rfl (hA.own ho) (by omega) hm) ?_
          rintro _ _ ⟨rfl, rfl⟩
          refine RS.q rfl (QO.pickF (by rfl) hb3 (by rfl)) ?_
          refine RS.q rfl (QO.assign) ?_
          refine RS.nil ?_
          refine thenC_n ?_
          refine CS.cond (by rfl) (fun hb4 => ?_) (fun hb4 => ?_)
          · refine CS.seq ?_
            refine CS.region ?_
            refine RS.q rfl (QO.assign) ?_
            refine RS.q rfl (QO.assign) ?_
            refine RS.nil ?_
            refine thenC_n ?_
            refine CS.ret ?_
            refine blockC_r ?_
            refine thenC_r ?_
            refine retQ.mk (H' := []) (.inr rfl) (RVs.tmp (by rfl) (RVs.tmp (by rfl) RVs.nil)) (List.nil_sublist _) ?_
            first | exact ⟨sk_a (by assumption), rfl⟩ | exact ⟨sk_b (by assumption), rfl⟩ | exact ⟨sk_c (by assumption) (by omega) (.inl (by omega)), rfl⟩ | exact ⟨sk_c (by assumption) (by omega) (.inr (by assumption)), rfl⟩
          · refine CS.skip ?_
            refine blockC_n ?_
            refine thenC_n ?_
            refine CS.seq ?_
            refine CS.region ?_
            have hany : anyO l l.length = false := by assumption
            refine RS.q rfl (QO.fieldAddr fo24_0 (by rfl)) ?_
            first | (refine RS.q rfl (QO.load ty22 (by rfl) (by repeat (first | exact List.Mem.head _ | refine List.Mem.tail _ ?_)) (by rfl)) ?_) | (refine RS.q rfl (QO.loadO ty22 (by rfl) (by assumption)) ?_) | (refine RS.q rfl (QO.load ty22 (by rfl) (by repeat (first | exact List.Mem.head _ | refine List.Mem.tail _ ?_)) (by assumption)) ?_)
            refine RS.call rfl (by rfl) ok61 (by rfl) (fun w ho => maxI A l.length c l _ rfl (hA.own ho) (by omega) hm) ?_
            rintro _ _ ⟨rfl, rfl⟩
            refine RS.q rfl (QO.assign) ?_
            refine RS.nil ?_
            refine thenC_n ?_
            refine CS.seq ?_
            refine CS.region ?_
            refine RS.alloc rfl ty109 ?_
            intro g7
            refine RS.nil ?_
            refine thenC_n ?_
            refine CS.seq ?_
            refine CS.seq ?_
            refine CS.region ?_
            have hmx := anyO_mx hany (show 0 < l.length by omega)
            have hx := hA.at0 (by omega)
            obtain ⟨bA, oA, hAA, hcell⟩ := hx
            subst hAA
            refine RS.q rfl (QO.move) ?_
            refine RS.q rfl (QO.assign) ?_
            refine RS.nil ?_
            refine thenC_n ?_
            refine CS.block ?_
            refine CS.loop (X := Nat × Value × Value × HL) (8 :: 9 :: 10 :: 11 :: 38 :: 39 :: 40 :: 41 :: 42 :: 43 :: 44 :: 45 :: 46 :: 47 :: 48 :: 49 :: 50 :: 51 :: 52 :: 53 :: 54 :: 55 :: 56 :: 57 :: 58 :: 59 :: 60 :: 61 :: 62 :: 63 :: 64 :: 65 :: 66 :: 67 :: 68 :: 69 :: 70 :: 71 :: 72 :: 73 :: 74 :: 75 :: 76 :: []) (fun z => [(8, iv (h - (z.1 : Int)))]) (fun z => ⟨g7, 109, [z.2.1, z.2.2.1]⟩ :: ⟨g2, 24, [.slice (some ⟨bA, oA, none⟩) l.length c, iv x1, iv x2, iv x3]⟩ :: z.2.2.2) (fun z => z.1 ≤ h.toNat ∧ (z.2.1 = .pointer none ∨ z.2.1 = .pointer (some ⟨g7, 0, none⟩)) ∧ Row 5 1 z.2.2.1 (sktN l h (mxK l l.length) z.1).length (bc (sktN l h (mxK l l.length) z.1)) z.2.2.2) (fun z => h.toNat - z.1) (0, .pointer none, .slice none 0 0, []) ⟨Nat.zero_le _, .inl rfl, .nil⟩ ?_ ?_ ?_
            · exact kn_cons (congrArg iv (by simp)) kn_nil
            · exact (by repeat (first | exact List.Sublist.refl _ | exact List.nil_sublist _ | refine List.Sublist.cons_cons _ ?_ | refine List.Sublist.cons _ ?_ | exact Sbp.refl | exact Sbp.nil | refine Sbp.cons (by repeat (first | exact Rem.head | apply Rem.tail)) ?_ | exact Sbp.app | refine Sbp.skip ?_))
            · intro z gj10 hz
              obtain ⟨m, p, u, Hr⟩ := z
              obtain ⟨hmh, hp, hrow⟩ := hz
              simp only at hmh hp hrow
              show CS _ _ _ _ _ (puts (mix _ _ _) [(8, iv (h - (m : Int)))]) (⟨g7, 109, [p, u]⟩ :: ⟨g2, 24, [.slice (some ⟨bA, oA, none⟩) l.length c, iv x1, iv x2, iv x3]⟩ :: Hr)
              refine CS.seq ?_
              refine CS.seq ?_
              refine CS.region ?_
              refine RS.q rfl (QO.move) ?_
              refine RS.q rfl (QO.geq (by rfl) (by rfl)) ?_
              refine RS.nil ?_
              refine thenC_n ?_
              refine CS.cond (by rfl) (fun hb5 => ?_) (fun hb5 => ?_)
              · have hb5p := of_decide_eq_true hb5
                refine CS.skip ?_
                refine thenC_n ?_
                refine CS.seq ?_
                refine CS.block ?_
                refine CS.seq ?_
                refine CS.region ?_
                refine RS.q rfl (QO.fieldAddr fo24_0 (by rfl)) ?_
                first | (refine RS.q rfl (QO.load ty22 (by rfl) (by repeat (first | exact List.Mem.head _ | refine List.Mem.tail _ ?_)) (by rfl)) ?_) | (refine RS.q rfl (QO.loadO ty22 (by rfl) (by assumption)) ?_) | (refine RS.q rfl (QO.load ty22 (by rfl) (by repeat (first | exact List.Mem.head _ | refine List.Mem.tail _ ?_)) (by assumption)) ?_)
                refine RS.q rfl (QO.lenS Tryd.underlying22 (by rfl)) ?_
                refine RS.make rfl Tryd.underlying107 ty5 (by rfl) (by rfl) (by omega) (by omega) (by omega) (by omega) ?_
                intro g45
                refine RS.q rfl (QO.assign) ?_
                refine RS.nil ?_
                refine thenC_n ?_
                refine CS.seq ?_
                refine CS.seq ?_
                refine CS.region ?_
                refine RS.q rfl (QO.fieldAddr fo24_0 (by rfl)) ?_
                first | (refine RS.q rfl (QO.load ty22 (by rfl) (by repeat (first | exact List.Mem.head _ | refine List.Mem.tail _ ?_)) (by rfl)) ?_) | (refine RS.q rfl (QO.loadO ty22 (by rfl) (by assumption)) ?_) | (refine RS.q rfl (QO.load ty22 (by rfl) (by repeat (first | exact List.Mem.head _ | refine List.Mem.tail _ ?_)) (by assumption)) ?_)
                refine RS.q rfl (QO.lenS Tryd.underlying22 (by rfl)) ?_
                refine RS.q rfl (QO.move) ?_
                refine RS.nil ?_
                refine thenC_n ?_
                refine CS.block ?_
                refine CS.loop (X := Nat) (10 :: 11 :: 49 :: 50 :: 51 :: 52 :: 53 :: 54 :: 55 :: 56 :: 57 :: 58 :: 59 :: 60 :: 61 :: 62 :: 63 :: 64 :: 65 :: 66 :: 67 :: 68 :: 69 :: 70 :: 71 :: []) (fun i => [(49, iv (i : Int))]) (fun i => ⟨g45, 5, bc (lnP (chB h (h - (m : Int)) (mxK l l.length)) l i)⟩ :: ⟨g7, 109, [p, u]⟩ :: ⟨g2, 24, [.slice (some ⟨bA, oA, none⟩) l.length c, iv x1, iv x2, iv x3]⟩ :: Hr) (fun i => i ≤ l.length) (fun i => l.length - i) 0 (Nat.zero_le _) ?_ ?_ ?_
                · exact (by repeat (first | exact kn_nil | refine kn_cons (by rfl) ?_))
                · exact (by rw [← lnP_0]; exact (by repeat (first | exact List.Sublist.refl _ | exact List.nil_sublist _ | refine List.Sublist.cons_cons _ ?_ | refine List.Sublist.cons _ ?_ | exact Sbp.refl | exact Sbp.nil | refine Sbp.cons (by repeat (first | exact Rem.head | apply Rem.tail)) ?_ | exact Sbp.app | refine Sbp.skip ?_)))
                · intro i gj14 hz
                  refine CS.seq ?_
                  refine CS.region ?_
                  refine RS.q rfl (QO.lss (by rfl) (by rfl)) ?_
                  refine RS.nil ?_
                  refine thenC_n ?_
                  refine CS.seq ?_
                  refine CS.cond (by rfl) (fun hb6 => ?_) (fun hb6 => ?_)
                  · have hb6p := of_decide_eq_true hb6
                    refine CS.skip ?_
                    refine thenC_n ?_
                    refine CS.seq ?_
                    refine CS.block ?_
                    refine CS.seq ?_
                    refine CS.region ?_
                    refine RS.q rfl (QO.move) ?_
                    first | (refine RS.q rfl (QO.idx0 Tryd.underlying22 ty3 (by rfl) (by rfl) (by rfl) (by omega)) ?_) | (refine RS.q rfl (QO.idxn Tryd.underlying22 ty3 (by rfl) (by rfl) (by rfl) (by omega)) ?_) | (refine RS.q rfl (QO.idx1 Tryd.underlying22 ty3 (by rfl) (by rfl) (by omega) (by omega)) ?_)
                    refine RS.q rfl (QO.loadO ty3 (by rfl) (hcell i (by omega))) ?_
                    refine RS.q rfl (QO.assign) ?_
                    refine RS.q rfl (QO.assign) ?_
                    refine RS.nil ?_
                    refine thenC_n ?_
                    refine CS.seq ?_
                    refine CS.region ?_
                    refine RS.q rfl (QO.move) ?_
                    refine RS.q rfl (QO.move) ?_
                    first | (refine RS.q rfl (QO.idx0 Tryd.underlying107 ty5 (by rfl) (by rfl) (by rfl) (by omega)) ?_) | (refine RS.q rfl (QO.idxn Tryd.underlying107 ty5 (by rfl) (by rfl) (by rfl) (by omega)) ?_) | (refine RS.q rfl (QO.idx1 Tryd.underlying107 ty5 (by rfl) (by rfl) (by omega) (by omega)) ?_)
                    refine RS.store1e ty5 rfl (by rfl) (by rfl) (by rfl) (bc_set32 _ i) (by repeat (first | exact Upd.head | apply Upd.tail)) (by rw [bc_len, lnP_len]; omega) ?_
                    refine RS.nil ?_
                    refine thenC_n ?_
                    refine CS.seq ?_
                    refine CS.region ?_
                    have hli := anyO_bd hany (show i < l.length by omega)
                    have hmu1 := mulI_bd hli.1 hli.2 (show 0 ≤ h by omega) (show h ≤ 64 by omega)
                    have hmu2 := mulI_bd (show 0 ≤ (h - (m : Int)) by omega) (show (h - (m : Int)) ≤ 64 by omega) hmx.1 hmx.2
                    refine RS.q rfl (QO.move) ?_
                    refine RS.q rfl (QO.gtr (by rfl) (by rfl)) ?_
                    refine RS.q rfl (QO.move) ?_
                    refine RS.split (dj := 59) (by rfl) (fun hb7 => ?_) (fun hb7 => ?_)
                    · have hb7p := of_decide_eq_true hb7
                      refine RS.on (dj := 59) rfl (congrArg Value.bool hb7) ?_
                      refine RS.q rfl (QO.move) ?_
                      refine RS.on (dj := 59) rfl (congrArg Value.bool hb7) ?_
                      refine RS.q rfl (QO.move) ?_
                      refine RS.on (dj := 59) rfl (congrArg Value.bool hb7) ?_
                      refine RS.q rfl (QO.mul (by rfl) (by rfl) (by omega) (by omega)) ?_
                      refine RS.on (dj := 59) rfl (congrArg Value.bool hb7) ?_
                      refine RS.q rfl (QO.move) ?_
                      refine RS.on (dj := 59) rfl (congrArg Value.bool hb7) ?_
                      refine RS.q rfl (QO.move) ?_
                      refine RS.on (dj := 59) rfl (congrArg Value.bool hb7) ?_
                      refine RS.q rfl (QO.mul (by rfl) (by rfl) (by omega) (by omega)) ?_
                      refine RS.on (dj := 59) rfl (congrArg Value.bool hb7) ?_
                      refine RS.q rfl (QO.geq (by rfl) (by rfl)) ?_
                      refine RS.q rfl (QO.pickT (by rfl) hb7 (by rfl)) ?_
                      refine RS.nil ?_
                      refine thenC_n ?_
                      refine CS.cond (by rfl) (fun hb8 => ?_) (fun hb8 => ?_)
                      · have hb8p := of_decide_eq_true hb8
                        refine CS.region ?_
                        refine RS.q rfl (QO.move) ?_
                        refine RS.q rfl (QO.move) ?_
                        first | (refine RS.q rfl (QO.idx0 Tryd.underlying107 ty5 (by rfl) (by rfl) (by rfl) (by omega)) ?_) | (refine RS.q rfl (QO.idxn Tryd.underlying107 ty5 (by rfl) (by rfl) (by rfl) (by omega)) ?_) | (refine RS.q rfl (QO.idx1 Tryd.underlying107 ty5 (by rfl) (by rfl) (by omega) (by omega)) ?_)
                        refine RS.store1e ty5 rfl (by rfl) (by rfl) (by rfl) (bc_set35 _ i) (by repeat (first | exact Upd.head | apply Upd.tail)) (by rw [bc_len, List.length_set, lnP_len]; omega) ?_
                        refine RS.nil ?_
                        refine blockC_n ?_
                        refine thenC_n ?_
                        refine CS.region ?_
                        first | (refine RS.q rfl (QO.add (by rfl) (by rfl) (by omega) (by omega)) ?_) | (refine RS.q rfl (QO.ibin (by rfl) (by rfl) trivial) ?_)
                        refine RS.q rfl (QO.move) ?_
                        refine RS.nil ?_
                        refine loopQ_n (by intro t ht; repeat (first | with_reducible exact rfl | exact frame_puts ht (frame_mix ht) _ rfl | (refine frame_put rfl ht ?_) | (refine frame_puts ht ?_ _ rfl) | exact frame_mix ht | (refine frame_mix2 rfl ht ?_) | exact rfl)) ?_
                        first | exact ⟨i + 1, by omega, by omega, (by repeat (first | exact kn_nil | refine kn_cons (by rfl) ?_)), (by rw [← lnP_T (show i < l.length by omega) (chB_T (by omega) (by omega))]; exact (by repeat (first | exact List.Sublist.refl _ | exact List.nil_sublist _ | refine List.Sublist.cons_cons _ ?_ | refine List.Sublist.cons _ ?_ | exact Sbp.refl | exact Sbp.nil | refine Sbp.cons (by repeat (first | exact Rem.head | apply Rem.tail)) ?_ | exact Sbp.app | refine Sbp.skip ?_)))⟩ | exact ⟨i + 1, by omega, by omega, (by repeat (first | exact kn_nil | refine kn_cons (by rfl) ?_)), (by rw [← lnP_set (b := 32) (show i < l.length by omega) (chB_F (by omega))]; exact (by repeat (first | exact List.Sublist.refl _ | exact List.nil_sublist _ | refine List.Sublist.cons_cons _ ?_ | refine List.Sublist.cons _ ?_ | exact Sbp.refl | exact Sbp.nil | refine Sbp.cons (by repeat (first | exact Rem.head | apply Rem.tail)) ?_ | exact Sbp.app | refine Sbp.skip ?_)))⟩
                      · have hb8p := of_decide_eq_false hb8
                        refine CS.skip ?_
                        refine blockC_n ?_
                        refine thenC_n ?_
                        refine CS.region ?_
                        first | (refine RS.q rfl (QO.add (by rfl) (by rfl) (by omega) (by omega)) ?_) | (refine RS.q rfl (QO.ibin (by rfl) (by rfl) trivial) ?_)
                        refine RS.q rfl (QO.move) ?_
                        refine RS.nil ?_
                        refine loopQ_n (by intro t ht; repeat (first | with_reducible exact rfl | exact frame_puts ht (frame_mix ht) _ rfl | (refine frame_put rfl ht ?_) | (refine frame_puts ht ?_ _ rfl) | exact frame_mix ht | (refine frame_mix2 rfl ht ?_) | exact rfl)) ?_
                        first | exact ⟨i + 1, by omega, by omega, (by repeat (first | exact kn_nil | refine kn_cons (by rfl) ?_)), (by rw [← lnP_T (show i < l.length by omega) (chB_T (by omega) (by omega))]; exact (by repeat (first | exact List.Sublist.refl _ | exact List.nil_sublist _ | refine List.Sublist.cons_cons _ ?_ | refine List.Sublist.cons _ ?_ | exact Sbp.refl | exact Sbp.nil | refine Sbp.cons (by repeat (first | exact Rem.head | apply Rem.tail)) ?_ | exact Sbp.app | refine Sbp.skip ?_)))⟩ | exact ⟨i + 1, by omega, by omega, (by repeat (first | exact kn_nil | refine kn_cons (by rfl) ?_)), (by rw [← lnP_set (b := 32) (show i < l.length by omega) (chB_F (by omega))]; exact (by repeat (first | exact List.Sublist.refl _ | exact List.nil_sublist _ | refine List.Sublist.cons_cons _ ?_ | refine List.Sublist.cons _ ?_ | exact Sbp.refl | exact Sbp.nil | refine Sbp.cons (by repeat (first | exact Rem.head | apply Rem.tail)) ?_ | exact Sbp.app | refine Sbp.skip ?_)))⟩
                    · have hb7p := of_decide_eq_false hb7
                      refine RS.off (dj := 59) rfl (.inl (congrArg Value.bool hb7)) (fun _ => rfl) rfl ?_
                      refine RS.off (dj := 59) rfl (.inl (congrArg Value.bool hb7)) (fun _ => rfl) rfl ?_
                      refine RS.off (dj := 59) rfl (.inl (congrArg Value.bool hb7)) (fun _ => rfl) rfl ?_
                      refine RS.off (dj := 59) rfl (.inl (congrArg Value.bool hb7)) (fun _ => rfl) rfl ?_
                      refine RS.off (dj := 59) rfl (.inl (congrArg Value.bool hb7)) (fun _ => rfl) rfl ?_
                      refine RS.off (dj := 59) rfl (.inl (congrArg Value.bool hb7)) (fun _ => rfl) rfl ?_
                      refine RS.off (dj := 59) rfl (.inl (congrArg Value.bool hb7)) (fun _ => rfl) rfl ?_
                      refine RS.q rfl (QO.pickF (by rfl) hb7 (by rfl)) ?_
                      refine RS.nil ?_
                      refine thenC_n ?_
                      refine CS.condF (by rfl) rfl ?_
                      refine CS.skip ?_
                      refine blockC_n ?_
                      refine thenC_n ?_
                      refine CS.region ?_
                      first | (refine RS.q rfl (QO.add (by rfl) (by rfl) (by omega) (by omega)) ?_) | (refine RS.q rfl (QO.ibin (by rfl) (by rfl) trivial) ?_)
                      refine RS.q rfl (QO.move) ?_
                      refine RS.nil ?_
                      refine loopQ_n (by intro t ht; repeat (first | with_reducible exact rfl | exact frame_puts ht (frame_mix ht) _ rfl | (refine frame_put rfl ht ?_) | (refine frame_puts ht ?_ _ rfl) | exact frame_mix ht | (refine frame_mix2 rfl ht ?_) | exact rfl)) ?_
                      first | exact ⟨i + 1, by omega, by omega, (by repeat (first | exact kn_nil | refine kn_cons (by rfl) ?_)), (by rw [← lnP_T (show i < l.length by omega) (chB_T (by omega) (by omega))]; exact (by repeat (first | exact List.Sublist.refl _ | exact List.nil_sublist _ | refine List.Sublist.cons_cons _ ?_ | refine List.Sublist.cons _ ?_ | exact Sbp.refl | exact Sbp.nil | refine Sbp.cons (by repeat (first | exact Rem.head | apply Rem.tail)) ?_ | exact Sbp.app | refine Sbp.skip ?_)))⟩ | exact ⟨i + 1, by omega, by omega, (by repeat (first | exact kn_nil | refine kn_cons (by rfl) ?_)), (by rw [← lnP_set (b := 32) (show i < l.length by omega) (chB_F (by omega))]; exact (by repeat (first | exact List.Sublist.refl _ | exact List.nil_sublist _ | refine List.Sublist.cons_cons _ ?_ | refine List.Sublist.cons _ ?_ | exact Sbp.refl | exact Sbp.nil | refine Sbp.cons (by repeat (first | exact Rem.head | apply Rem.tail)) ?_ | exact Sbp.app | refine Sbp.skip ?_)))⟩
                  · have hb6p := of_decide_eq_false hb6
                    refine CS.exit ?_
                    refine thenC_x ?_
                    refine loopQ_x ?_
                    refine blockC_x ?_
                    refine thenC_n ?_
                    refine CS.region ?_
                    refine RS.q rfl (QO.move) ?_
                    refine RS.qv rfl (QO.convBS (l := lnP (chB h (h - (m : Int)) (mxK l l.length)) l i) (junk := []) Tryd.underlying107 Tryd.underlying5 Tryd.underlying9 (congrArg (fun q => Value.slice (some ⟨g45, 0, none⟩) q l.length) (lnP_len _ _ _).symm) (by rw [List.append_nil]; exact (by repeat (first | exact List.Mem.head _ | refine List.Mem.tail _ ?_)))) (congrArg sv (show lnP (chB h (h - (m : Int)) (mxK l l.length)) l i = l.map (chB h (h - (m : Int)) (mxK l l.length)) by rw [show i = l.length by omega, lnP_all])) ?_
                    refine RS.call rfl (by rfl) ok63 (by rfl) (fun w ho => trimRight (l.map (chB h (h - (m : Int)) (mxK l l.length))) _ (by rw [List.length_map]; omega)) ?_
                    rintro _ _ ⟨rfl, rfl⟩
                    refine RS.qv rfl (QO.stradd (l := trimR (l.map (chB h (h - (m : Int)) (mxK l l.length)))) (m := [10]) (by rfl) (by rfl) (by have h9 := row_len (l := l) (f := (chB h (h - (m : Int)) (mxK l l.length))) (by omega); show (trimR (l.map (chB h (h - (m : Int)) (mxK l l.length)))).length + 1 ≤ _; omega)) ((show sv (trimR (l.map (chB h (h - (m : Int)) (mxK l l.length))) ++ [10]) = sv (rowS l h (mxK l l.length) (h - (m : Int))) from rfl)) ?_
                    refine RS.sbpy (H2 := ⟨g7, 109, [p, u]⟩ :: (Hr ++ [⟨g2, 24, [.slice (some ⟨bA, oA, none⟩) l.length c, iv x1, iv x2, iv x3]⟩])) (Sbp.cons (.tail .head) (Sbp.skip (sbp_rot _ _))) ?_
                    refine RS.callH (⟨g7, 109, [p, u]⟩ :: (Hr ++ [⟨g2, 24, [.slice (some ⟨bA, oA, none⟩) l.length c, iv x1, iv x2, iv x3]⟩])) rfl (by rfl) ok62 (by rfl) (by repeat (first | exact List.Sublist.refl _ | exact List.nil_sublist _ | refine List.Sublist.cons_cons _ ?_ | refine List.Sublist.cons _ ?_ | exact Sbp.refl | exact Sbp.nil | refine Sbp.cons (by repeat (first | exact Rem.head | apply Rem.tail)) ?_ | exact Sbp.app | refine Sbp.skip ?_)) (fun w ho => writeS g7 p u (sktN l h (mxK l l.length) m) (rowS l h (mxK l l.length) (h - (m : Int))) Hr [⟨g2, 24, [.slice (some ⟨bA, oA, none⟩) l.length c, iv x1, iv x2, iv x3]⟩] _ hp hrow (by have h8 := sktN_bd (l := l) (h := h) (most := (mxK l l.length)) (m := m) (by omega) (by omega); have h9 := rowS_len l h (mxK l l.length) (h - (m : Int)); omega)) ?_
                    rintro _ _ ⟨u2, Hr2, rfl, rfl, hrow2⟩
                    refine RS.sbpy (H2 := ⟨g7, 109, [.pointer (some ⟨g7, 0, none⟩), u2]⟩ :: ⟨g2, 24, [.slice (some ⟨bA, oA, none⟩) l.length c, iv x1, iv x2, iv x3]⟩ :: Hr2) (Sbp.cons .head (sbp_rot2 _ _)) ?_
                    refine RS.nil ?_
                    refine blockC_n ?_
                    refine thenC_n ?_
                    refine CS.region ?_
                    refine RS.q rfl (QO.move) ?_
                    first | (refine RS.q rfl (QO.sub (by rfl) (by rfl) (by omega) (by omega)) ?_) | (refine RS.q rfl (QO.ibin (by rfl) (by rfl) trivial) ?_)
                    refine RS.q rfl (QO.assign) ?_
                    refine RS.nil ?_
                    refine loopQ_n (by intro t ht; repeat (first | with_reducible exact rfl | exact frame_puts ht (frame_mix ht) _ rfl | (refine frame_put rfl ht ?_) | (refine frame_puts ht ?_ _ rfl) | exact frame_mix ht | (refine frame_mix2 rfl ht ?_) | exact rfl)) ?_
                    exact ⟨(m + 1, .pointer (some ⟨g7, 0, none⟩), u2, Hr2), ⟨by show m + 1 ≤ h.toNat; omega, .inr rfl, hrow2⟩, by show h.toNat - (m + 1) < h.toNat - m; omega, kn_cons (congrArg iv (by show h - (m : Int) - 1 = h - ((m + 1 : Nat) : Int); omega)) kn_nil, (by repeat (first | exact List.Sublist.refl _ | exact List.nil_sublist _ | refine List.Sublist.cons_cons _ ?_ | refine List.Sublist.cons _ ?_ | exact Sbp.refl | exact Sbp.nil | refine Sbp.cons (by repeat (first | exact Rem.head | apply Rem.tail)) ?_ | exact Sbp.app | refine Sbp.skip ?_))⟩
              · have hb5p := of_decide_eq_false hb5
                refine CS.exit ?_
                refine thenC_x ?_
                refine loopQ_x ?_
                refine blockC_x ?_
                refine thenC_n ?_
                refine CS.seq ?_
                refine CS.region ?_
                refine RS.callH (⟨g7, 109, [p, u]⟩ :: Hr) rfl (by rfl) ok64 (by rfl) (by repeat (first | exact List.Sublist.refl _ | exact List.nil_sublist _ | refine List.Sublist.cons_cons _ ?_ | refine List.Sublist.cons _ ?_ | exact Sbp.refl | exact Sbp.nil | refine Sbp.cons (by repeat (first | exact Rem.head | apply Rem.tail)) ?_ | exact Sbp.app | refine Sbp.skip ?_)) (fun w ho => stringB g7 p u (sktN l h (mxK l l.length) m) Hr _ hrow (sktN_ne (by omega)) (by have h8 := sktN_bd (l := l) (h := h) (most := (mxK l l.length)) (m := m) (by omega) (by omega); omega)) ?_
                rintro _ _ ⟨rfl, rfl⟩
                refine RS.q rfl (QO.assign) ?_
                refine RS.q rfl (QO.assign) ?_
                refine RS.nil ?_
                refine thenC_n ?_
                refine CS.ret ?_
                refine retQ.mk (H' := []) (.inr rfl) (RVs.tmp (by rfl) (RVs.tmp (by rfl) RVs.nil)) (List.nil_sublist _) ?_
                exact ⟨sk_ok (by assumption) (by omega) (by omega) hany (by omega), rfl⟩

set_option maxHeartbeats 4000000 in
set_option maxRecDepth 100000 in
theorem rsketch (A : Option Addr) (c : Nat) (l : List Int) (x1 x2 x3 h : Int) (W : World) (hA : IS W A l) (hm : l.length ≤ maxLen) : Fn_ Tryd.prog 13 #[.agg #[.slice A l.length c, iv x1, iv x2, iv x3], iv h] W (fun v H => v = sktV l h ∧ H = []) := by
  refine Fn_.intro Tryd.func13 rfl rfl (by rfl) ?_
  refine CS.seq ?_
  refine CS.region ?_
  refine RS.box rfl (by rfl) (by rfl) ?_
  intro g2
  refine RS.q rfl (QO.assign) ?_
  refine RS.q rfl (QO.assign) ?_
  refine RS.nil ?_
  refine thenC_n ?_
  refine CS.seq ?_
  refine CS.block ?_
  refine CS.seq ?_
  refine CS.region ?_
  refine RS.q rfl (QO.fieldAddr fo24_0 (by rfl)) ?_
  first | (refine RS.q rfl (QO.load ty22 (by rfl) (by repeat (first | exact List.Mem.head _ | refine List.Mem.tail _ ?_)) (by rfl)) ?_) | (refine RS.q rfl (QO.loadO ty22 (by rfl) (by assumption)) ?_) | (refine RS.q rfl (QO.load ty22 (by rfl) (by repeat (first | exact List.Mem.head _ | refine List.Mem.tail _ ?_)) (by assumption)) ?_)
  refine RS.q rfl (QO.lenS Tryd.underlying22 (by rfl)) ?_
  refine RS.q rfl (QO.eql (by rfl) (by rfl)) ?_
  refine RS.q rfl (QO.assign) ?_
  refine RS.nil ?_
  refine thenC_n ?_
  refine CS.cond (by rfl) (fun hb0 => ?_) (fun hb0 => ?_)
  · have hb0p := eq_of_beq hb0
    refine CS.seq ?_
    refine CS.region ?_
    refine RS.q rfl (QO.assign) ?_
    refine RS.q rfl (QO.assign) ?_
    refine RS.nil ?_
    refine thenC_n ?_
    refine CS.ret ?_
    refine blockC_r ?_
    refine thenC_r ?_
    refine retQ.mk (H' := []) (.inr rfl) (RVs.tmp (by rfl) (RVs.tmp (by rfl) RVs.nil)) (List.nil_sublist _) ?_
    first | exact ⟨sk_a (by assumption), rfl⟩ | exact ⟨sk_b (by assumption), rfl⟩ | exact ⟨sk_c (by assumption) (by omega) (.inl (by omega)), rfl⟩ | exact ⟨sk_c (by assumption) (by omega) (.inr (decide_eq_true (by omega))), rfl⟩ | exact ⟨sk_ok (by assumption) (by omega) (by omega) hany (by omega), rfl⟩
  · have hb0p := ne_of_beq_false hb0
    refine CS.seq ?_
    refine CS.region ?_
    refine RS.q rfl (QO.fieldAddr fo24_0 (by rfl)) ?_
    first | (refine RS.q rfl (QO.load ty22 (by rfl) (by repeat (first | exact List.Mem.head _ | refine List.Mem.tail _ ?_)) (by rfl)) ?_) | (refine RS.q rfl (QO.loadO ty22 (by rfl) (by assumption)) ?_) | (refine RS.q rfl (QO.load ty22 (by rfl) (by repeat (first | exact List.Mem.head _ | refine List.Mem.tail _ ?_)) (by assumption)) ?_)
    refine RS.q rfl (QO.lenS Tryd.underlying22 (by rfl)) ?_
    refine RS.q rfl (QO.gtr (by rfl) (by rfl)) ?_
    refine RS.q rfl (QO.assign) ?_
    refine RS.nil ?_
    refine thenC_n ?_
    refine CS.cond (by rfl) (fun hb1 => ?_) (fun hb1 => ?_)
    · have hb1p := of_decide_eq_true hb1
      refine CS.seq ?_
      refine CS.region ?_
      refine RS.q rfl (QO.assign) ?_
      refine RS.q rfl (QO.assign) ?_
      refine RS.nil ?_
      refine thenC_n ?_
      refine CS.ret ?_
      refine blockC_r ?_
      refine thenC_r ?_
      refine retQ.mk (H' := []) (.inr rfl) (RVs.tmp (by rfl) (RVs.tmp (by rfl) RVs.nil)) (List.nil_sublist _) ?_
      first | exact ⟨sk_a (by assumption), rfl⟩ | exact ⟨sk_b (by assumption), rfl⟩ | exact ⟨sk_c (by assumption) (by omega) (.inl (by omega)), rfl⟩ | exact ⟨sk_c (by assumption) (by omega) (.inr (decide_eq_true (by omega))), rfl⟩ | exact ⟨sk_ok (by assumption) (by omega) (by omega) hany (by omega), rfl⟩
    · have hb1p := of_decide_eq_false hb1
      refine CS.seq ?_
      refine CS.region ?_
      refine RS.q rfl (QO.fieldAddr fo24_0 (by rfl)) ?_
      first | (refine RS.q rfl (QO.load ty22 (by rfl) (by repeat (first | exact List.Mem.head _ | refine List.Mem.tail _ ?_)) (by rfl)) ?_) | (refine RS.q rfl (QO.loadO ty22 (by rfl) (by assumption)) ?_) | (refine RS.q rfl (QO.load ty22 (by rfl) (by repeat (first | exact List.Mem.head _ | refine List.Mem.tail _ ?_)) (by assumption)) ?_)
      refine RS.call rfl (by rfl) ok65 (by rfl) (fun w ho => minI A l.length c l _ rfl (hA.own ho) (by omega) hm) ?_
      rintro _ _ ⟨rfl, rfl⟩
      refine RS.q rfl (QO.lss (by rfl) (by rfl)) ?_
      refine RS.q rfl (QO.move) ?_
      refine RS.split (dj := 27) (by rfl) (fun hb2 => ?_) (fun hb2 => ?_)
      · have hb2p := of_decide_eq_true hb2
        refine RS.off (dj := 27) rfl (.inl (congrArg Value.bool hb2)) (fun _ => rfl) rfl ?_
        refine RS.off (dj := 27) rfl (.inl (congrArg Value.bool hb2)) (fun _ => rfl) rfl ?_
        refine RS.off (dj := 27) rfl (.inl (congrArg Value.bool hb2)) (fun _ => rfl) rfl ?_
        refine RS.off (dj := 27) rfl (.inl (congrArg Value.bool hb2)) (fun _ => rfl) rfl ?_
        refine RS.q rfl (QO.pickT (by rfl) hb2 (by rfl)) ?_
        refine RS.q rfl (QO.move) ?_
        refine RS.off (dj := 33) rfl (.inl (congrArg Value.bool rfl)) (fun _ => rfl) rfl ?_
        refine RS.off (dj := 33) rfl (.inl (congrArg Value.bool rfl)) (fun _ => rfl) rfl ?_
        refine RS.q rfl (QO.pickT (by rfl) rfl (by rfl)) ?_
        refine RS.q rfl (QO.move) ?_
        refine RS.off (dj := 37) rfl (.inl (congrArg Value.bool rfl)) (fun _ => rfl) rfl ?_
        refine RS.off (dj := 37) rfl (.inl (congrArg Value.bool rfl)) (fun _ => rfl) rfl ?_
        refine RS.q rfl (QO.pickT (by rfl) rfl (by rfl)) ?_
        refine RS.q rfl (QO.assign) ?_
        refine RS.nil ?_
        refine thenC_n ?_
        refine CS.condT (by rfl) rfl ?_
        refine CS.seq ?_
        refine CS.region ?_
        refine RS.q rfl (QO.assign) ?_
        refine RS.q rfl (QO.assign) ?_
        refine RS.nil ?_
        refine thenC_n ?_
        refine CS.ret ?_
        refine blockC_r ?_
        refine thenC_r ?_
        refine retQ.mk (H' := []) (.inr rfl) (RVs.tmp (by rfl) (RVs.tmp (by rfl) RVs.nil)) (List.nil_sublist _) ?_
        first | exact ⟨sk_a (by assumption), rfl⟩ | exact ⟨sk_b (by assumption), rfl⟩ | exact ⟨sk_c (by assumption) (by omega) (.inl (by omega)), rfl⟩ | exact ⟨sk_c (by assumption) (by omega) (.inr (decide_eq_true (by omega))), rfl⟩ | exact ⟨sk_ok (by assumption) (by omega) (by omega) hany (by omega), rfl⟩
      · have hb2p := of_decide_eq_false hb2
        refine RS.on (dj := 27) rfl (congrArg Value.bool hb2) ?_
        refine RS.q rfl (QO.fieldAddr fo24_0 (by rfl)) ?_
        refine RS.on (dj := 27) rfl (congrArg Value.bool hb2) ?_
        first | (refine RS.q rfl (QO.load ty22 (by rfl) (by repeat (first | exact List.Mem.head _ | refine List.Mem.tail _ ?_)) (by rfl)) ?_) | (refine RS.q rfl (QO.loadO ty22 (by rfl) (by assumption)) ?_) | (refine RS.q rfl (QO.load ty22 (by rfl) (by repeat (first | exact List.Mem.head _ | refine List.Mem.tail _ ?_)) (by assumption)) ?_)
        refine RS.on (dj := 27) rfl (congrArg Value.bool hb2) ?_
        refine RS.call rfl (by rfl) ok61 (by rfl) (fun w ho => maxI A l.length c l _ rfl (hA.own ho) (by omega) hm) ?_
        rintro _ _ ⟨rfl, rfl⟩
        refine RS.on (dj := 27) rfl (congrArg Value.bool hb2) ?_
        refine RS.q rfl (QO.gtr (by rfl) (by rfl)) ?_
        refine RS.q rfl (QO.pickF (by rfl) hb2 (by rfl)) ?_
        refine RS.q rfl (QO.move) ?_
        refine RS.split (dj := 33) (by rfl) (fun hb3 => ?_) (fun hb3 => ?_)
        · have hb3p := of_decide_eq_true hb3
          refine RS.off (dj := 33) rfl (.inl (congrArg Value.bool hb3)) (fun _ => rfl) rfl ?_
          refine RS.off (dj := 33) rfl (.inl (congrArg Value.bool hb3)) (fun _ => rfl) rfl ?_
          refine RS.q rfl (QO.pickT (by rfl) hb3 (by rfl)) ?_
          refine RS.q rfl (QO.move) ?_
          refine RS.off (dj := 37) rfl (.inl (congrArg Value.bool rfl)) (fun _ => rfl) rfl ?_
          refine RS.off (dj := 37) rfl (.inl (congrArg Value.bool rfl)) (fun _ => rfl) rfl ?_
          refine RS.q rfl (QO.pickT (by rfl) rfl (by rfl)) ?_
          refine RS.q rfl (QO.assign) ?_
          refine RS.nil ?_
          refine thenC_n ?_
          refine CS.condT (by rfl) rfl ?_
          refine CS.seq ?_
          refine CS.region ?_
          refine RS.q rfl (QO.assign) ?_
          refine RS.q rfl (QO.assign) ?_
          refine RS.nil ?_
          refine thenC_n ?_
          refine CS.ret ?_
          refine blockC_r ?_
          refine thenC_r ?_
          refine retQ.mk (H' := []) (.inr rfl) (RVs.tmp (by rfl) (RVs.tmp (by rfl) RVs.nil)) (List.nil_sublist _) ?_
          first | exact ⟨sk_a (by assumption), rfl⟩ | exact ⟨sk_b (by assumption), rfl⟩ | exact ⟨sk_c (by assumption) (by omega) (.inl (by omega)), rfl⟩ | exact ⟨sk_c (by assumption) (by omega) (.inr (decide_eq_true (by omega))), rfl⟩ | exact ⟨sk_ok (by assumption) (by omega) (by omega) hany (by omega), rfl⟩
        · have hb3p := of_decide_eq_false hb3
          refine RS.on (dj := 33) rfl (congrArg Value.bool hb3) ?_
          refine RS.q rfl (QO.move) ?_
          refine RS.on (dj := 33) rfl (congrArg Value.bool hb3) ?_
          refine RS.q rfl (QO.lss (by rfl) (by rfl)) ?_
          refine RS.q rfl (QO.pickF (by rfl) hb3 (by rfl)) ?_
          refine RS.q rfl (QO.move) ?_
          refine RS.split (dj := 37) (by rfl) (fun hb4 => ?_) (fun hb4 => ?_)
          · have hb4p := of_decide_eq_true hb4
            refine RS.off (dj := 37) rfl (.inl (congrArg Value.bool hb4)) (fun _ => rfl) rfl ?_
            refine RS.off (dj := 37) rfl (.inl (congrArg Value.bool hb4)) (fun _ => rfl) rfl ?_
            refine RS.q rfl (QO.pickT (by rfl) hb4 (by rfl)) ?_
            refine RS.q rfl (QO.assign) ?_
            refine RS.nil ?_
            refine thenC_n ?_
            refine CS.condT (by rfl) rfl ?_
            refine CS.seq ?_
            refine CS.region ?_
            refine RS.q rfl (QO.assign) ?_
            refine RS.q rfl (QO.assign) ?_
            refine RS.nil ?_
            refine thenC_n ?_
            refine CS.ret ?_
            refine blockC_r ?_
            refine thenC_r ?_
            refine retQ.mk (H' := []) (.inr rfl) (RVs.tmp (by rfl) (RVs.tmp (by rfl) RVs.nil)) (List.nil_sublist _) ?_
            first | exact ⟨sk_a (by assumption), rfl⟩ | exact ⟨sk_b (by assumption), rfl⟩ | exact ⟨sk_c (by assumption) (by omega) (.inl (by omega)), rfl⟩ | exact ⟨sk_c (by assumption) (by omega) (.inr (decide_eq_true (by omega))), rfl⟩ | exact ⟨sk_ok (by assumption) (by omega) (by omega) hany (by omega), rfl⟩
          · have hb4p := of_decide_eq_false hb4
            refine RS.on (dj := 37) rfl (congrArg Value.bool hb4) ?_
            refine RS.q rfl (QO.move) ?_
            refine RS.on (dj := 37) rfl (congrArg Value.bool hb4) ?_
            refine RS.q rfl (QO.gtr (by rfl) (by rfl)) ?_
            refine RS.q rfl (QO.pickF (by rfl) hb4 (by rfl)) ?_
            refine RS.q rfl (QO.assign) ?_
            refine RS.nil ?_
            refine thenC_n ?_
            refine CS.cond (by rfl) (fun hb5 => ?_) (fun hb5 => ?_)
            · have hb5p := of_decide_eq_true hb5
              refine CS.seq ?_
              refine CS.region ?_
              refine RS.q rfl (QO.assign) ?_
              refine RS.q rfl (QO.assign) ?_
              refine RS.nil ?_
              refine thenC_n ?_
              refine CS.ret ?_
              refine blockC_r ?_
              refine thenC_r ?_
              refine retQ.mk (H' := []) (.inr rfl) (RVs.tmp (by rfl) (RVs.tmp (by rfl) RVs.nil)) (List.nil_sublist _) ?_
              first | exact ⟨sk_a (by assumption), rfl⟩ | exact ⟨sk_b (by assumption), rfl⟩ | exact ⟨sk_c (by assumption) (by omega) (.inl (by omega)), rfl⟩ | exact ⟨sk_c (by assumption) (by omega) (.inr (decide_eq_true (by omega))), rfl⟩ | exact ⟨sk_ok (by assumption) (by omega) (by omega) hany (by omega), rfl⟩
            · have hb5p := of_decide_eq_false hb5
              refine CS.skip ?_
              refine blockC_n ?_
              refine thenC_n ?_
              refine CS.seq ?_
              refine CS.region ?_
              have hany : anyO l l.length = false := decide_eq_false (by omega)
              refine RS.q rfl (QO.fieldAddr fo24_0 (by rfl)) ?_
              first | (refine RS.q rfl (QO.load ty22 (by rfl) (by repeat (first | exact List.Mem.head _ | refine List.Mem.tail _ ?_)) (by rfl)) ?_) | (refine RS.q rfl (QO.loadO ty22 (by rfl) (by assumption)) ?_) | (refine RS.q rfl (QO.load ty22 (by rfl) (by repeat (first | exact List.Mem.head _ | refine List.Mem.tail _ ?_)) (by assumption)) ?_)
              refine RS.call rfl (by rfl) ok61 (by rfl) (fun w ho => maxI A l.length c l _ rfl (hA.own ho) (by omega) hm) ?_
              rintro _ _ ⟨rfl, rfl⟩
              refine RS.q rfl (QO.assign) ?_
              refine RS.nil ?_
              refine thenC_n ?_
              refine CS.seq ?_
              refine CS.region ?_
              refine RS.q rfl (QO.assign) ?_
              refine RS.nil ?_
              refine thenC_n ?_
              refine CS.seq ?_
              refine CS.seq ?_
              refine CS.region ?_
              have hmx := anyO_mx hany (show 0 < l.length by omega)
              have hx := hA.at0 (by omega)
              obtain ⟨bA, oA, hAA, hcell⟩ := hx
              subst hAA
              refine RS.q rfl (QO.move) ?_
              refine RS.q rfl (QO.assign) ?_
              refine RS.nil ?_
              refine thenC_n ?_
              refine CS.block ?_
              refine CS.loop (X := Nat) (7 :: 8 :: 9 :: 11 :: 45 :: 46 :: 47 :: 48 :: 49 :: 50 :: 51 :: 52 :: 53 :: 54 :: 55 :: 56 :: 57 :: 58 :: 59 :: 60 :: 61 :: 62 :: 63 :: 64 :: 65 :: 66 :: 67 :: 68 :: 69 :: 70 :: 71 :: 72 :: 73 :: 74 :: 75 :: 76 :: []) (fun m => [(8, iv (h - (m : Int))), (7, sv (sktN l h (mxK l l.length) m))]) (fun m => [⟨g2, 24, [.slice (some ⟨bA, oA, none⟩) l.length c, iv x1, iv x2, iv x3]⟩]) (fun m => m ≤ h.toNat) (fun m => h.toNat - m) 0 (Nat.zero_le _) ?_ ?_ ?_
              · exact kn_cons (congrArg iv (by simp)) (kn_cons rfl kn_nil)
              · exact (by repeat (first | exact List.Sublist.refl _ | exact List.nil_sublist _ | refine List.Sublist.cons_cons _ ?_ | refine List.Sublist.cons _ ?_ | exact Sbp.refl | exact Sbp.nil | refine Sbp.cons (by repeat (first | exact Rem.head | apply Rem.tail)) ?_ | exact Sbp.app | refine Sbp.skip ?_))
              · intro m gj10 hz
                have hmh := hz
                refine CS.seq ?_
                refine CS.seq ?_
                refine CS.region ?_
                refine RS.q rfl (QO.move) ?_
                refine RS.q rfl (QO.geq (by rfl) (by rfl)) ?_
                refine RS.nil ?_
                refine thenC_n ?_
                refine CS.cond (by rfl) (fun hb6 => ?_) (fun hb6 => ?_)
                · have hb6p := of_decide_eq_true hb6
                  refine CS.skip ?_
                  refine thenC_n ?_
                  refine CS.seq ?_
                  refine CS.block ?_
                  refine CS.seq ?_
                  refine CS.region ?_
                  refine RS.q rfl (QO.assign) ?_
                  refine RS.nil ?_
                  refine thenC_n ?_
                  refine CS.seq ?_
                  refine CS.seq ?_
                  refine CS.region ?_
                  refine RS.q rfl (QO.fieldAddr fo24_0 (by rfl)) ?_
                  first | (refine RS.q rfl (QO.load ty22 (by rfl) (by repeat (first | exact List.Mem.head _ | refine List.Mem.tail _ ?_)) (by rfl)) ?_) | (refine RS.q rfl (QO.loadO ty22 (by rfl) (by assumption)) ?_) | (refine RS.q rfl (QO.load ty22 (by rfl) (by repeat (first | exact List.Mem.head _ | refine List.Mem.tail _ ?_)) (by assumption)) ?_)
                  refine RS.q rfl (QO.lenS Tryd.underlying22 (by rfl)) ?_
                  refine RS.q rfl (QO.move) ?_
                  refine RS.nil ?_
                  refine thenC_n ?_
                  refine CS.block ?_
                  refine CS.loop (X := Nat) (9 :: 11 :: 52 :: 53 :: 54 :: 55 :: 56 :: 57 :: 58 :: 59 :: 60 :: 61 :: 62 :: 63 :: 64 :: 65 :: 66 :: 67 :: 68 :: 69 :: 70 :: 71 :: []) (fun i => [(52, iv (i : Int)), (9, sv ((l.take i).map (chB h (h - (m : Int)) (mxK l l.length))))]) (fun i => [⟨g2, 24, [.slice (some ⟨bA, oA, none⟩) l.length c, iv x1, iv x2, iv x3]⟩]) (fun i => i ≤ l.length) (fun i => l.length - i) 0 (Nat.zero_le _) ?_ ?_ ?_
                  · exact kn_cons (by rfl) (kn_cons (by rfl) kn_nil)
                  · exact (by repeat (first | exact List.Sublist.refl _ | exact List.nil_sublist _ | refine List.Sublist.cons_cons _ ?_ | refine List.Sublist.cons _ ?_ | exact Sbp.refl | exact Sbp.nil | refine Sbp.cons (by repeat (first | exact Rem.head | apply Rem.tail)) ?_ | exact Sbp.app | refine Sbp.skip ?_))
                  · intro i gj14 hz
                    refine CS.seq ?_
                    refine CS.region ?_
                    refine RS.q rfl (QO.lss (by rfl) (by rfl)) ?_
                    refine RS.nil ?_
                    refine thenC_n ?_
                    refine CS.seq ?_
                    refine CS.cond (by rfl) (fun hb7 => ?_) (fun hb7 => ?_)
                    · have hb7p := of_decide_eq_true hb7
                      refine CS.skip ?_
                      refine thenC_n ?_
                      refine CS.seq ?_
                      refine CS.block ?_
                      refine CS.seq ?_
                      refine CS.region ?_
                      first | (refine RS.q rfl (QO.idx0 Tryd.underlying22 ty3 (by rfl) (by rfl) (by rfl) (by omega)) ?_) | (refine RS.q rfl (QO.idxn Tryd.underlying22 ty3 (by rfl) (by rfl) (by rfl) (by omega)) ?_) | (refine RS.q rfl (QO.idx1 Tryd.underlying22 ty3 (by rfl) (by rfl) (by omega) (by omega)) ?_)
                      refine RS.q rfl (QO.loadO ty3 (by rfl) (hcell i (by omega))) ?_
                      refine RS.q rfl (QO.assign) ?_
                      refine RS.nil ?_
                      refine thenC_n ?_
                      refine CS.seq ?_
                      refine CS.region ?_
                      have hli := anyO_bd hany (show i < l.length by omega)
                      have hmu1 := mulI_bd hli.1 hli.2 (show 0 ≤ h by omega) (show h ≤ 64 by omega)
                      have hmu2 := mulI_bd (show 0 ≤ (h - (m : Int)) by omega) (show (h - (m : Int)) ≤ 64 by omega) hmx.1 hmx.2
                      have hlm := mxK_ge (l := l) (show i < l.length by omega)
                      refine RS.q rfl (QO.move) ?_
                      refine RS.q rfl (QO.gtr (by rfl) (by rfl)) ?_
                      refine RS.q rfl (QO.move) ?_
                      refine RS.split (dj := 58) (by rfl) (fun hb8 => ?_) (fun hb8 => ?_)
                      · have hb8p := of_decide_eq_true hb8
                        refine RS.on (dj := 58) rfl (congrArg Value.bool hb8) ?_
                        refine RS.q rfl (QO.move) ?_
                        refine RS.on (dj := 58) rfl (congrArg Value.bool hb8) ?_
                        refine RS.q rfl (QO.move) ?_
                        refine RS.on (dj := 58) rfl (congrArg Value.bool hb8) ?_
                        refine RS.q rfl (QO.mul (by rfl) (by rfl) (by omega) (by omega)) ?_
                        refine RS.on (dj := 58) rfl (congrArg Value.bool hb8) ?_
                        refine RS.q rfl (QO.move) ?_
                        refine RS.on (dj := 58) rfl (congrArg Value.bool hb8) ?_
                        refine RS.q rfl (QO.move) ?_
                        refine RS.on (dj := 58) rfl (congrArg Value.bool hb8) ?_
                        refine RS.q rfl (QO.mul (by rfl) (by rfl) (by omega) (by omega)) ?_
                        refine RS.on (dj := 58) rfl (congrArg Value.bool hb8) ?_
                        refine RS.q rfl (QO.geq (by rfl) (by rfl)) ?_
                        refine RS.q rfl (QO.pickT (by rfl) hb8 (by rfl)) ?_
                        refine RS.nil ?_
                        refine thenC_n ?_
                        refine CS.cond (by rfl) (fun hb9 => ?_) (fun hb9 => ?_)
                        · have hb9p := of_decide_eq_true hb9
                          refine CS.region ?_
                          refine RS.q rfl (QO.move) ?_
                          refine RS.qv rfl (QO.stradd (l := (l.take i).map (chB h (h - (m : Int)) (mxK l l.length))) (m := [35]) (by rfl) (by rfl) (by rw [List.length_map, List.length_take]; show _ + 1 ≤ _; omega)) (congrArg sv (take_map1 (f := (chB h (h - (m : Int)) (mxK l l.length))) (show i < l.length by omega) (chB_rT (by omega) (by omega) (by omega) (by omega) (by omega) (by omega)))) ?_
                          refine RS.q rfl (QO.assign) ?_
                          refine RS.nil ?_
                          refine blockC_n ?_
                          refine thenC_n ?_
                          refine CS.region ?_
                          first | (refine RS.q rfl (QO.add (by rfl) (by rfl) (by omega) (by omega)) ?_) | (refine RS.q rfl (QO.ibin (by rfl) (by rfl) trivial) ?_)
                          refine RS.q rfl (QO.move) ?_
                          refine RS.nil ?_
                          refine loopQ_n (by intro t ht; repeat (first | with_reducible exact rfl | exact frame_puts ht (frame_mix ht) _ rfl | (refine frame_put rfl ht ?_) | (refine frame_puts ht ?_ _ rfl) | exact frame_mix ht | (refine frame_mix2 rfl ht ?_) | exact rfl)) ?_
                          exact ⟨i + 1, by omega, by omega, (by repeat (first | exact kn_nil | refine kn_cons (by rfl) ?_)), (by repeat (first | exact List.Sublist.refl _ | exact List.nil_sublist _ | refine List.Sublist.cons_cons _ ?_ | refine List.Sublist.cons _ ?_ | exact Sbp.refl | exact Sbp.nil | refine Sbp.cons (by repeat (first | exact Rem.head | apply Rem.tail)) ?_ | exact Sbp.app | refine Sbp.skip ?_))⟩
                        · have hb9p := of_decide_eq_false hb9
                          refine CS.region ?_
                          refine RS.q rfl (QO.move) ?_
                          refine RS.qv rfl (QO.stradd (l := (l.take i).map (chB h (h - (m : Int)) (mxK l l.length))) (m := [32]) (by rfl) (by rfl) (by rw [List.length_map, List.length_take]; show _ + 1 ≤ _; omega)) (congrArg sv (take_map1 (f := (chB h (h - (m : Int)) (mxK l l.length))) (show i < l.length by omega) (chB_rF (by omega) (by omega) (by omega) (by omega) (by omega)))) ?_
                          refine RS.q rfl (QO.assign) ?_
                          refine RS.nil ?_
                          refine blockC_n ?_
                          refine thenC_n ?_
                          refine CS.region ?_
                          first | (refine RS.q rfl (QO.add (by rfl) (by rfl) (by omega) (by omega)) ?_) | (refine RS.q rfl (QO.ibin (by rfl) (by rfl) trivial) ?_)
                          refine RS.q rfl (QO.move) ?_
                          refine RS.nil ?_
                          refine loopQ_n (by intro t ht; repeat (first | with_reducible exact rfl | exact frame_puts ht (frame_mix ht) _ rfl | (refine frame_put rfl ht ?_) | (refine frame_puts ht ?_ _ rfl) | exact frame_mix ht | (refine frame_mix2 rfl ht ?_) | exact rfl)) ?_
                          exact ⟨i + 1, by omega, by omega, (by repeat (first | exact kn_nil | refine kn_cons (by rfl) ?_)), (by repeat (first | exact List.Sublist.refl _ | exact List.nil_sublist _ | refine List.Sublist.cons_cons _ ?_ | refine List.Sublist.cons _ ?_ | exact Sbp.refl | exact Sbp.nil | refine Sbp.cons (by repeat (first | exact Rem.head | apply Rem.tail)) ?_ | exact Sbp.app | refine Sbp.skip ?_))⟩
                      · have hb8p := of_decide_eq_false hb8
                        refine RS.off (dj := 58) rfl (.inl (congrArg Value.bool hb8)) (fun _ => rfl) rfl ?_
                        refine RS.off (dj := 58) rfl (.inl (congrArg Value.bool hb8)) (fun _ => rfl) rfl ?_
                        refine RS.off (dj := 58) rfl (.inl (congrArg Value.bool hb8)) (fun _ => rfl) rfl ?_
                        refine RS.off (dj := 58) rfl (.inl (congrArg Value.bool hb8)) (fun _ => rfl) rfl ?_
                        refine RS.off (dj := 58) rfl (.inl (congrArg Value.bool hb8)) (fun _ => rfl) rfl ?_
                        refine RS.off (dj := 58) rfl (.inl (congrArg Value.bool hb8)) (fun _ => rfl) rfl ?_
                        refine RS.off (dj := 58) rfl (.inl (congrArg Value.bool hb8)) (fun _ => rfl) rfl ?_
                        refine RS.q rfl (QO.pickF (by rfl) hb8 (by rfl)) ?_
                        refine RS.nil ?_
                        refine thenC_n ?_
                        refine CS.condF (by rfl) rfl ?_
                        refine CS.region ?_
                        refine RS.q rfl (QO.move) ?_
                        refine RS.qv rfl (QO.stradd (l := (l.take i).map (chB h (h - (m : Int)) (mxK l l.length))) (m := [32]) (by rfl) (by rfl) (by rw [List.length_map, List.length_take]; show _ + 1 ≤ _; omega)) (congrArg sv (take_map1 (f := (chB h (h - (m : Int)) (mxK l l.length))) (show i < l.length by omega) (chB_rF (by omega) (by omega) (by omega) (by omega) (by omega)))) ?_
                        refine RS.q rfl (QO.assign) ?_
                        refine RS.nil ?_
                        refine blockC_n ?_
                        refine thenC_n ?_
                        refine CS.region ?_
                        first | (refine RS.q rfl (QO.add (by rfl) (by rfl) (by omega) (by omega)) ?_) | (refine RS.q rfl (QO.ibin (by rfl) (by rfl) trivial) ?_)
                        refine RS.q rfl (QO.move) ?_
                        refine RS.nil ?_
                        refine loopQ_n (by intro t ht; repeat (first | with_reducible exact rfl | exact frame_puts ht (frame_mix ht) _ rfl | (refine frame_put rfl ht ?_) | (refine frame_puts ht ?_ _ rfl) | exact frame_mix ht | (refine frame_mix2 rfl ht ?_) | exact rfl)) ?_
                        exact ⟨i + 1, by omega, by omega, (by repeat (first | exact kn_nil | refine kn_cons (by rfl) ?_)), (by repeat (first | exact List.Sublist.refl _ | exact List.nil_sublist _ | refine List.Sublist.cons_cons _ ?_ | refine List.Sublist.cons _ ?_ | exact Sbp.refl | exact Sbp.nil | refine Sbp.cons (by repeat (first | exact Rem.head | apply Rem.tail)) ?_ | exact Sbp.app | refine Sbp.skip ?_))⟩
                    · have hb7p := of_decide_eq_false hb7
                      refine CS.exit ?_
                      refine thenC_x ?_
                      refine loopQ_x ?_
                      refine blockC_x ?_
                      refine thenC_n ?_
                      refine CS.region ?_
                      refine RS.q rfl (QO.move) ?_
                      refine RS.qv rfl (QO.move) (congrArg sv (show (l.take i).map (chB h (h - (m : Int)) (mxK l l.length)) = l.map (chB h (h - (m : Int)) (mxK l l.length)) by rw [show i = l.length by omega, List.take_length])) ?_
                      refine RS.call rfl (by rfl) ok63 (by rfl) (fun w ho => trimRight (l.map (chB h (h - (m : Int)) (mxK l l.length))) _ (by rw [List.length_map]; omega)) ?_
                      rintro _ _ ⟨rfl, rfl⟩
                      refine RS.qv rfl (QO.stradd (l := trimR (l.map (chB h (h - (m : Int)) (mxK l l.length)))) (m := [10]) (by rfl) (by rfl) (by have h9 := row_len (l := l) (f := (chB h (h - (m : Int)) (mxK l l.length))) (by omega); show (trimR (l.map (chB h (h - (m : Int)) (mxK l l.length)))).length + 1 ≤ _; omega)) ((show sv (trimR (l.map (chB h (h - (m : Int)) (mxK l l.length))) ++ [10]) = sv (rowS l h (mxK l l.length) (h - (m : Int))) from rfl)) ?_
                      refine RS.qv rfl (QO.stradd (l := sktN l h (mxK l l.length) m) (m := rowS l h (mxK l l.length) (h - (m : Int))) (by rfl) (by rfl) (by have h8 := sktN_bd (l := l) (h := h) (most := (mxK l l.length)) (m := m) (by omega) (by omega); have h9 := rowS_len l h (mxK l l.length) (h - (m : Int)); omega)) ((show sv (sktN l h (mxK l l.length) m ++ rowS l h (mxK l l.length) (h - (m : Int))) = sv (sktN l h (mxK l l.length) (m + 1)) from rfl)) ?_
                      refine RS.q rfl (QO.assign) ?_
                      refine RS.nil ?_
                      refine blockC_n ?_
                      refine thenC_n ?_
                      refine CS.region ?_
                      refine RS.q rfl (QO.move) ?_
                      first | (refine RS.q rfl (QO.sub (by rfl) (by rfl) (by omega) (by omega)) ?_) | (refine RS.q rfl (QO.ibin (by rfl) (by rfl) trivial) ?_)
                      refine RS.q rfl (QO.assign) ?_
                      refine RS.nil ?_
                      refine loopQ_n (by intro t ht; repeat (first | with_reducible exact rfl | exact frame_puts ht (frame_mix ht) _ rfl | (refine frame_put rfl ht ?_) | (refine frame_puts ht ?_ _ rfl) | exact frame_mix ht | (refine frame_mix2 rfl ht ?_) | exact rfl)) ?_
                      exact ⟨m + 1, by omega, by omega, kn_cons (congrArg iv (by show h - (m : Int) - 1 = h - ((m + 1 : Nat) : Int); omega)) (kn_cons rfl kn_nil), (by repeat (first | exact List.Sublist.refl _ | exact List.nil_sublist _ | refine List.Sublist.cons_cons _ ?_ | refine List.Sublist.cons _ ?_ | exact Sbp.refl | exact Sbp.nil | refine Sbp.cons (by repeat (first | exact Rem.head | apply Rem.tail)) ?_ | exact Sbp.app | refine Sbp.skip ?_))⟩
                · have hb6p := of_decide_eq_false hb6
                  refine CS.exit ?_
                  refine thenC_x ?_
                  refine loopQ_x ?_
                  refine blockC_x ?_
                  refine thenC_n ?_
                  refine CS.seq ?_
                  refine CS.region ?_
                  refine RS.q rfl (QO.move) ?_
                  refine RS.q rfl (QO.assign) ?_
                  refine RS.q rfl (QO.assign) ?_
                  refine RS.nil ?_
                  refine thenC_n ?_
                  refine CS.ret ?_
                  refine retQ.mk (H' := []) (.inr rfl) (RVs.tmp (by rfl) (RVs.tmp (by rfl) RVs.nil)) (List.nil_sublist _) ?_
                  first | exact ⟨sk_a (by assumption), rfl⟩ | exact ⟨sk_b (by assumption), rfl⟩ | exact ⟨sk_c (by assumption) (by omega) (.inl (by omega)), rfl⟩ | exact ⟨sk_c (by assumption) (by omega) (.inr (decide_eq_true (by omega))), rfl⟩ | exact ⟨sk_ok (by assumption) (by omega) (by omega) hany (by omega), rfl⟩

set_option maxRecDepth 100000 in
theorem sketchesMatch (A : Option Addr) (c : Nat) (l : List Int) (x1 x2 x3 h : Int) (W : World) (hA : IS W A l) (hm : l.length ≤ maxLen) : Fn_ Tryd.prog 3 #[.agg #[.slice A l.length c, iv x1, iv x2, iv x3], iv h] W (fun v H => v = .bool true ∧ H = []) := by
  refine Fn_.intro Tryd.func3 rfl rfl (by rfl) ?_
  refine CS.seq ?_
  refine CS.region ?_
  refine RS.box rfl (by rfl) (by rfl) ?_
  intro g2
  refine RS.q rfl (QO.assign) ?_
  refine RS.nil ?_
  refine thenC_n ?_
  refine CS.seq ?_
  refine CS.seq ?_
  refine CS.region ?_
  refine RS.call rfl (by rfl) ok11 (by rfl) (fun w ho => landed _) ?_
  rintro _ _ ⟨rfl, rfl⟩
  refine RS.q rfl (QO.not (by rfl)) ?_
  refine RS.nil ?_
  refine thenC_n ?_
  refine CS.condF (by rfl) rfl ?_
  refine CS.skip ?_
  refine thenC_n ?_
  refine CS.seq ?_
  refine CS.region ?_
  first | (refine RS.q rfl (QO.loadB ty24 (by rfl) (by repeat (first | exact List.Mem.head _ | refine List.Mem.tail _ ?_)) (by rfl)) ?_) | (refine RS.q rfl (QO.loadA ty24 (by rfl) (by repeat (first | exact List.Mem.head _ | refine List.Mem.tail _ ?_)) (by rfl) (by rfl)) ?_) | (refine RS.q rfl (QO.loadOA ty24 (by rfl) (by assumption) (by rfl)) ?_)
  refine RS.q rfl (QO.move) ?_
  refine RS.call rfl (by rfl) ok12 (by rfl) (fun w ho => sketch A c l x1 x2 x3 h _ (hA.own ho) hm) ?_
  rintro _ _ ⟨rfl, rfl⟩
  refine RS.q rfl (QO.move) ?_
  refine RS.q rfl (QO.extract (by rfl) (by rfl)) ?_
  refine RS.q rfl (QO.extract (by rfl) (by rfl)) ?_
  refine RS.q rfl (QO.assign) ?_
  refine RS.q rfl (QO.assign) ?_
  refine RS.nil ?_
  refine thenC_n ?_
  refine CS.seq ?_
  refine CS.region ?_
  first | (refine RS.q rfl (QO.loadB ty24 (by rfl) (by repeat (first | exact List.Mem.head _ | refine List.Mem.tail _ ?_)) (by rfl)) ?_) | (refine RS.q rfl (QO.loadA ty24 (by rfl) (by repeat (first | exact List.Mem.head _ | refine List.Mem.tail _ ?_)) (by rfl) (by rfl)) ?_) | (refine RS.q rfl (QO.loadOA ty24 (by rfl) (by assumption) (by rfl)) ?_)
  refine RS.q rfl (QO.move) ?_
  refine RS.call rfl (by rfl) ok13 (by rfl) (fun w ho => rsketch A c l x1 x2 x3 h _ (hA.own ho) hm) ?_
  rintro _ _ ⟨rfl, rfl⟩
  refine RS.q rfl (QO.move) ?_
  refine RS.q rfl (QO.extract (by rfl) (by rfl)) ?_
  refine RS.q rfl (QO.extract (by rfl) (by rfl)) ?_
  refine RS.q rfl (QO.assign) ?_
  refine RS.q rfl (QO.assign) ?_
  refine RS.nil ?_
  refine thenC_n ?_
  refine CS.seq ?_
  refine CS.region ?_
  refine RS.q rfl (QO.move) ?_
  refine RS.q rfl (QO.move) ?_
  refine RS.qv rfl (QO.streq (by rfl) (by rfl)) (congrArg Value.bool (beq_self_eq_true _)) ?_
  refine RS.q rfl (QO.move) ?_
  refine RS.on (dj := 26) rfl (congrArg Value.bool rfl) ?_
  refine RS.q rfl (QO.move) ?_
  refine RS.on (dj := 26) rfl (congrArg Value.bool rfl) ?_
  refine RS.q rfl (QO.move) ?_
  refine RS.on (dj := 26) rfl (congrArg Value.bool rfl) ?_
  refine RS.qv rfl (QO.eql (by rfl) (by rfl)) (congrArg Value.bool (beq_self_eq_true _)) ?_
  refine RS.q rfl (QO.pickT (by rfl) rfl (by rfl)) ?_
  refine RS.q rfl (QO.assign) ?_
  refine RS.nil ?_
  refine thenC_n ?_
  refine CS.ret ?_
  refine retQ.mk (H' := []) (.inr rfl) (RVs.tmp (by rfl) RVs.nil) (List.nil_sublist _) ?_
  exact ⟨rfl, rfl⟩

theorem sketchesMatchN (A : Option Addr) (n c : Nat) (l : List Int) (x1 x2 x3 h : Int) (W : World) (hl : l.length = n) (hA : IS W A l) (hm : n ≤ maxLen) : Fn_ Tryd.prog 3 #[.agg #[.slice A n c, iv x1, iv x2, iv x3], iv h] W (fun v H => v = .bool true ∧ H = []) := by
  subst hl
  exact sketchesMatch A c l x1 x2 x3 h W hA hm

end Go.Proofs.YtapcgokcfmklbaaDoor
