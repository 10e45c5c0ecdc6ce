/-
  Contracts: CodesMatch. Conditions: as each theorem says.
-/
import Derived.Test.YtapcgokcfmklbaaDoorD4
import Derived.Test.YtapcgokcfmklbaaDoorEq
namespace Go.Proofs.YtapcgokcfmklbaaDoor
open Go Go.Proofs Go.RowKit

theorem eqt59 : intsT Tryd.prog 59 = 4 := by kernel_rfl
theorem ok29 : callOK Tryd.prog 29 = true := by kernel_rfl
theorem ok30 : callOK Tryd.prog 30 = true := by kernel_rfl
theorem ok31 : callOK Tryd.prog 31 = true := by kernel_rfl
theorem ok32 : callOK Tryd.prog 32 = true := by kernel_rfl
theorem ok33 : callOK Tryd.prog 33 = true := by kernel_rfl
theorem ok34 : callOK Tryd.prog 34 = true := by kernel_rfl
theorem ok35 : callOK Tryd.prog 35 = true := by kernel_rfl
theorem ok36 : callOK Tryd.prog 36 = true := by kernel_rfl
theorem ok37 : callOK Tryd.prog 37 = true := by kernel_rfl

/-- the numbers read, the first k of them -/
def rL (l : List UInt8) (k : Nat) : List Value := [iv (if 0 < k then fld l 0 else 0 : Nat), iv (if 1 < k then fld l 1 else 0 : Nat), iv (if 2 < k then fld l 2 else 0 : Nat), iv (if 3 < k then fld l 3 else 0 : Nat)]
theorem rL_set {l : List UInt8} {k : Nat} {x : Int} (hk : k < 4) (hx : x = (fld l k : Nat)) : (rL l k).set k (iv x) = rL l (k + 1) := by
  subst hx
  match k, hk with
  | 0, _ => rfl
  | 1, _ => rfl
  | 2, _ => rfl
  | 3, _ => rfl
theorem chk_a {r : Int} {l : List UInt8} {k : Nat} (hk : k < 4) (h : dg (l.getD (3 * k) 0) = false) : chk r l (3 * k) = false := by unfold chk; rw [if_neg (by omega)]; exact h
theorem chk_b {r : Int} {l : List UInt8} {k : Nat} (hk : k < 4) (h : dg (l.getD (3 * k + 1) 0) = false) : chk r l (3 * k + 1) = false := by unfold chk; rw [if_neg (by omega)]; exact h
theorem prsE_9c {r : Int} {l : List UInt8} (h : sec r ≠ 0) (h2 : ¬ ∀ j, j < 11 → chk r l j = true) : prsE r l = 9 := by
  unfold prsE; rw [if_neg h, if_pos]
  exact fun hh => h2 (chkAll_iff.1 hh.2)
theorem fld_bd {l : List UInt8} {k : Nat} (h : dg (l.getD (3 * k) 0) = true ∧ dg (l.getD (3 * k + 1) 0) = true) : fld l k < 100 := num2_bd h.1 h.2
theorem fld_eq {l : List UInt8} {k : Nat} : (((l.getD (3 * k) 0).toNat - 48 : Nat) : Int) * 10 + (((l.getD (3 * k + 1) 0).toNat - 48 : Nat) : Int) = ((fld l k : Nat) : Int) := by unfold fld num2; omega

set_option maxHeartbeats 4000000 in
set_option maxRecDepth 100000 in
theorem rparseCode (rate : Int) (l : List UInt8) (W : World) (hl : l.length ≤ maxLen) : Fn_ Tryd.prog 35 #[iv rate, sv l] W (fun v H => v = prsVal rate l ∧ H = []) := by
  unfold maxLen at hl
  refine Fn_.intro Tryd.func35 rfl rfl (by rfl) ?_
  refine CS.seq ?_
  refine CS.region ?_
  refine RS.alloc rfl ty59 ?_
  intro g4
  refine RS.q rfl (QO.assign) ?_
  refine RS.nil ?_
  refine thenC_n ?_
  refine CS.seq ?_
  refine CS.seq ?_
  refine CS.region ?_
  refine RS.q rfl (QO.move) ?_
  refine RS.call rfl (by rfl) ok88 (by rfl) (fun w ho => second _ _) ?_
  rintro _ _ ⟨rfl, rfl⟩
  refine RS.q rfl (QO.eql (by rfl) (by rfl)) ?_
  refine RS.nil ?_
  refine thenC_n ?_
  refine CS.cond (by rfl) (fun hb0 => ?_) (fun hb0 => ?_)
  · have hb0p := eq_of_beq hb0
    refine CS.seq ?_
    refine CS.region ?_
    refine RS.q rfl (QO.build ty59 pl59 (by rfl)) ?_
    first | refine RS.storeB ty59 (by rfl) (by rfl) (by rfl) (by rfl) (by rfl) (by repeat (first | exact Upd.head | apply Upd.tail)) (by rfl) ?_ | refine RS.storeP ty59 (by rfl) (by rfl) (by rfl) (by rfl) (by rfl) (by repeat (first | exact Upd.head | apply Upd.tail)) (by rfl) ?_
    refine RS.q rfl (QO.assign) ?_
    refine RS.nil ?_
    refine thenC_n ?_
    refine CS.ret ?_
    refine thenC_r ?_
    refine retQ.mk (H' := []) (.inr rfl) (RVs.cellA ty59 (by rfl) (by repeat (first | exact List.Mem.head _ | refine List.Mem.tail _ ?_)) (by rfl) (RVs.tmp (by rfl) RVs.nil)) (List.nil_sublist _) ?_
    first | exact ⟨prs_err (prsE_1 hb0p) (by decide), rfl⟩ | exact ⟨prs_err (prsE_9a (by assumption) (by omega)) (by decide), rfl⟩ | exact ⟨(prs_err (prsE_9b hs (j := 3 * k) (by omega) (chk_a (by omega) (dg_no (by omega)))) (by decide)), rfl⟩ | exact ⟨(prs_err (prsE_9b hs (j := 3 * k + 1) (by omega) (chk_b (by omega) (dg_no (by omega)))) (by decide)), rfl⟩ | exact ⟨prs_err (prsE_9c hs (fun hh => bne_iff_ne.1 (by assumption) ((form_iff hl11 hdd).2 hh))) (by decide), rfl⟩ | exact ⟨prs_err (prsE_c hs hl11 hall) (by assumption), rfl⟩ | exact ⟨prs_ok ((prsE_c hs hl11 hall).trans (of_bne_false (by assumption))), rfl⟩
  · have hb0p := ne_of_beq_false hb0
    refine CS.skip ?_
    refine thenC_n ?_
    refine CS.seq ?_
    refine CS.seq ?_
    refine CS.region ?_
    have hs : sec rate ≠ 0 := hb0p
    have hsb := sec_bd rate
    refine RS.q rfl (QO.move) ?_
    refine RS.q rfl (QO.lenStr Tryd.underlying9 (by rfl)) ?_
    refine RS.q rfl (QO.neq (by rfl) (by rfl)) ?_
    refine RS.nil ?_
    refine thenC_n ?_
    refine CS.cond (by rfl) (fun hb1 => ?_) (fun hb1 => ?_)
    · have hb1p := bne_iff_ne.1 hb1
      refine CS.seq ?_
      refine CS.region ?_
      refine RS.q rfl (QO.build ty59 pl59 (by rfl)) ?_
      first | refine RS.storeB ty59 (by rfl) (by rfl) (by rfl) (by rfl) (by rfl) (by repeat (first | exact Upd.head | apply Upd.tail)) (by rfl) ?_ | refine RS.storeP ty59 (by rfl) (by rfl) (by rfl) (by rfl) (by rfl) (by repeat (first | exact Upd.head | apply Upd.tail)) (by rfl) ?_
      refine RS.q rfl (QO.assign) ?_
      refine RS.nil ?_
      refine thenC_n ?_
      refine CS.ret ?_
      refine thenC_r ?_
      refine retQ.mk (H' := []) (.inr rfl) (RVs.cellA ty59 (by rfl) (by repeat (first | exact List.Mem.head _ | refine List.Mem.tail _ ?_)) (by rfl) (RVs.tmp (by rfl) RVs.nil)) (List.nil_sublist _) ?_
      first | exact ⟨prs_err (prsE_1 hb0p) (by decide), rfl⟩ | exact ⟨prs_err (prsE_9a (by assumption) (by omega)) (by decide), rfl⟩ | exact ⟨(prs_err (prsE_9b hs (j := 3 * k) (by omega) (chk_a (by omega) (dg_no (by omega)))) (by decide)), rfl⟩ | exact ⟨(prs_err (prsE_9b hs (j := 3 * k + 1) (by omega) (chk_b (by omega) (dg_no (by omega)))) (by decide)), rfl⟩ | exact ⟨prs_err (prsE_9c hs (fun hh => bne_iff_ne.1 (by assumption) ((form_iff hl11 hdd).2 hh))) (by decide), rfl⟩ | exact ⟨prs_err (prsE_c hs hl11 hall) (by assumption), rfl⟩ | exact ⟨prs_ok ((prsE_c hs hl11 hall).trans (of_bne_false (by assumption))), rfl⟩
    · have hb1p := of_bne_false hb1
      refine CS.skip ?_
      refine thenC_n ?_
      refine CS.seq ?_
      refine CS.region ?_
      refine RS.alloc rfl ty139 ?_
      intro g6
      refine RS.nil ?_
      refine thenC_n ?_
      refine CS.cut (X := Unit) (5 :: 7 :: 8 :: 9 :: 20 :: 21 :: 22 :: 23 :: 24 :: 25 :: 26 :: 27 :: 28 :: 29 :: 30 :: 31 :: 32 :: 33 :: 34 :: 35 :: 36 :: 37 :: 38 :: 39 :: 40 :: 41 :: 42 :: 43 :: 44 :: 45 :: 46 :: 47 :: 48 :: 49 :: 50 :: 51 :: 52 :: 53 :: 54 :: 55 :: 56 :: 57 :: []) (fun z => []) (fun z => [⟨g6, 139, rL l 4⟩, ⟨g4, 59, [iv 0, iv 0, iv 0, iv 0]⟩]) (fun z => ∀ j, j < 4 → dg (l.getD (3 * j) 0) = true ∧ dg (l.getD (3 * j + 1) 0) = true) ?_ ?_
      · refine CS.seq ?_
        refine CS.region ?_
        have hl11 : l.length = 11 := by omega
        refine RS.q rfl (QO.move) ?_
        refine RS.nil ?_
        refine thenC_n ?_
        refine CS.block ?_
        refine CS.loop (X := Nat) (5 :: 7 :: 8 :: 9 :: 20 :: 21 :: 22 :: 23 :: 24 :: 25 :: 26 :: 27 :: 28 :: 29 :: 30 :: 31 :: 32 :: 33 :: 34 :: 35 :: 36 :: 37 :: 38 :: 39 :: 40 :: 41 :: 42 :: 43 :: 44 :: 45 :: 46 :: 47 :: 48 :: 49 :: 50 :: 51 :: 52 :: 53 :: 54 :: 55 :: 56 :: 57 :: []) (fun k => [(20, iv (k : Int))]) (fun k => [⟨g6, 139, rL l k⟩, ⟨g4, 59, [iv 0, iv 0, iv 0, iv 0]⟩]) (fun k => k ≤ 4 ∧ ∀ j, j < k → dg (l.getD (3 * j) 0) = true ∧ dg (l.getD (3 * j + 1) 0) = true) (fun k => 4 - k) 0 ⟨Nat.zero_le _, fun j h => absurd h (Nat.not_lt_zero _)⟩ ?_ ?_ ?_
        · exact (by repeat (first | exact kn_nil | refine kn_cons (by rfl) ?_))
        · exact (by repeat (first | exact List.Sublist.refl _ | exact List.nil_sublist _ | refine List.Sublist.cons_cons _ ?_ | refine List.Sublist.cons _ ?_ | exact Sbp.refl | exact Sbp.nil | refine Sbp.cons (by repeat (first | exact Rem.head | apply Rem.tail)) ?_ | exact Sbp.app | refine Sbp.skip ?_))
        · intro k gj7 hz
          obtain ⟨hk, hdg⟩ := hz
          refine CS.seq ?_
          refine CS.region ?_
          refine RS.q rfl (QO.lss (by rfl) (by rfl)) ?_
          refine RS.nil ?_
          refine thenC_n ?_
          refine CS.seq ?_
          refine CS.cond (by rfl) (fun hb2 => ?_) (fun hb2 => ?_)
          · have hb2p := of_decide_eq_true hb2
            refine CS.skip ?_
            refine thenC_n ?_
            refine CS.seq ?_
            refine CS.block ?_
            refine CS.seq ?_
            refine CS.region ?_
            refine RS.q rfl (QO.move) ?_
            refine RS.q rfl (QO.assign) ?_
            refine RS.nil ?_
            refine thenC_n ?_
            refine CS.seq ?_
            refine CS.draw 11 rfl (by kernel_rfl) (by kernel_rfl) ?_
            refine RT.take (i := 0) rfl (by kernel_rfl) rfl (QO.move) ?_
            refine RT.take (i := 1) rfl (by kernel_rfl) rfl (QO.move) ?_
            first | (refine RT.takev (i := 2) rfl (by kernel_rfl) rfl (QO.mul (by rfl) (by rfl) (by omega) (by omega)) (congrArg iv (show 3 * (k : Int) = ((3 * k : Nat) : Int) by omega)) ?_) | (refine RT.takev (i := 2) rfl (by kernel_rfl) rfl (QO.ibin (by rfl) (by rfl) trivial) (congrArg iv (show 3 * (k : Int) = ((3 * k : Nat) : Int) by omega)) ?_)
            refine RT.take (i := 3) rfl (by kernel_rfl) rfl (QO.idxStr Tryd.underlying9 (by rfl) (by rfl) (by omega) (str_at (i := 3 * k) (by omega))) ?_
            refine RT.take (i := 4) rfl (by kernel_rfl) rfl (QO.move) ?_
            refine RT.take (i := 5) rfl (by kernel_rfl) rfl (QO.move) ?_
            first | (refine RT.takev (i := 6) rfl (by kernel_rfl) rfl (QO.mul (by rfl) (by rfl) (by omega) (by omega)) (congrArg iv (show 3 * (k : Int) = ((3 * k : Nat) : Int) by omega)) ?_) | (refine RT.takev (i := 6) rfl (by kernel_rfl) rfl (QO.ibin (by rfl) (by rfl) trivial) (congrArg iv (show 3 * (k : Int) = ((3 * k : Nat) : Int) by omega)) ?_)
            first | (refine RT.takev (i := 7) rfl (by kernel_rfl) rfl (QO.add (by rfl) (by rfl) (by omega) (by omega)) (congrArg iv (show ((3 * k : Nat) : Int) + 1 = ((3 * k + 1 : Nat) : Int) by omega)) ?_) | (refine RT.takev (i := 7) rfl (by kernel_rfl) rfl (QO.ibin (by rfl) (by rfl) trivial) (congrArg iv (show ((3 * k : Nat) : Int) + 1 = ((3 * k + 1 : Nat) : Int) by omega)) ?_)
            refine RT.take (i := 8) rfl (by kernel_rfl) rfl (QO.idxStr Tryd.underlying9 (by rfl) (by rfl) (by omega) (str_at (i := 3 * k + 1) (by omega))) ?_
            refine RT.take (i := 9) rfl (by kernel_rfl) rfl (QO.assign) ?_
            refine RT.take (i := 10) rfl (by kernel_rfl) rfl (QO.assign) ?_
            refine RT.done (by kernel_rfl) ?_
            refine thenC_n ?_
            refine CS.seq ?_
            refine CS.seq ?_
            refine CS.region ?_
            refine RS.q rfl (QO.move) ?_
            refine RS.q rfl (QO.lss (by rfl) (by rfl)) ?_
            refine RS.q rfl (QO.move) ?_
            refine RS.split (dj := 34) (by rfl) (fun hb3 => ?_) (fun hb3 => ?_)
            · have hb3p := of_decide_eq_true hb3
              refine RS.off (dj := 34) rfl (.inl (congrArg Value.bool hb3)) (fun _ => rfl) rfl ?_
              refine RS.off (dj := 34) rfl (.inl (congrArg Value.bool hb3)) (fun _ => rfl) rfl ?_
              refine RS.q rfl (QO.pickT (by rfl) hb3 (by rfl)) ?_
              refine RS.q rfl (QO.move) ?_
              refine RS.off (dj := 38) rfl (.inl (congrArg Value.bool rfl)) (fun _ => rfl) rfl ?_
              refine RS.off (dj := 38) rfl (.inl (congrArg Value.bool rfl)) (fun _ => rfl) rfl ?_
              refine RS.q rfl (QO.pickT (by rfl) rfl (by rfl)) ?_
              refine RS.q rfl (QO.move) ?_
              refine RS.off (dj := 42) rfl (.inl (congrArg Value.bool rfl)) (fun _ => rfl) rfl ?_
              refine RS.off (dj := 42) rfl (.inl (congrArg Value.bool rfl)) (fun _ => rfl) rfl ?_
              refine RS.q rfl (QO.pickT (by rfl) rfl (by rfl)) ?_
              refine RS.nil ?_
              refine thenC_n ?_
              refine CS.condT (by rfl) rfl ?_
              refine CS.seq ?_
              refine CS.region ?_
              refine RS.q rfl (QO.build ty59 pl59 (by rfl)) ?_
              first | refine RS.storeB ty59 (by rfl) (by rfl) (by rfl) (by rfl) (by rfl) (by repeat (first | exact Upd.head | apply Upd.tail)) (by rfl) ?_ | refine RS.storeP ty59 (by rfl) (by rfl) (by rfl) (by rfl) (by rfl) (by repeat (first | exact Upd.head | apply Upd.tail)) (by rfl) ?_
              refine RS.q rfl (QO.assign) ?_
              refine RS.nil ?_
              refine thenC_n ?_
              refine CS.ret ?_
              refine thenC_r ?_
              refine blockC_r ?_
              refine thenC_r ?_
              refine loopQ_r ?_
              refine blockC_r ?_
              refine cutQ_r ?_
              refine retQ.mk (H' := []) (.inr rfl) (RVs.cellA ty59 (by rfl) (by repeat (first | exact List.Mem.head _ | refine List.Mem.tail _ ?_)) (by rfl) (RVs.tmp (by rfl) RVs.nil)) (List.nil_sublist _) ?_
              first | exact ⟨prs_err (prsE_1 hb0p) (by decide), rfl⟩ | exact ⟨prs_err (prsE_9a (by assumption) (by omega)) (by decide), rfl⟩ | exact ⟨(prs_err (prsE_9b hs (j := 3 * k) (by omega) (chk_a (by omega) (dg_no (by omega)))) (by decide)), rfl⟩ | exact ⟨(prs_err (prsE_9b hs (j := 3 * k + 1) (by omega) (chk_b (by omega) (dg_no (by omega)))) (by decide)), rfl⟩ | exact ⟨prs_err (prsE_9c hs (fun hh => bne_iff_ne.1 (by assumption) ((form_iff hl11 hdd).2 hh))) (by decide), rfl⟩ | exact ⟨prs_err (prsE_c hs hl11 hall) (by assumption), rfl⟩ | exact ⟨prs_ok ((prsE_c hs hl11 hall).trans (of_bne_false (by assumption))), rfl⟩
            · have hb3p := of_decide_eq_false hb3
              refine RS.on (dj := 34) rfl (congrArg Value.bool hb3) ?_
              refine RS.q rfl (QO.move) ?_
              refine RS.on (dj := 34) rfl (congrArg Value.bool hb3) ?_
              refine RS.q rfl (QO.gtr (by rfl) (by rfl)) ?_
              refine RS.q rfl (QO.pickF (by rfl) hb3 (by rfl)) ?_
              refine RS.q rfl (QO.move) ?_
              refine RS.split (dj := 38) (by rfl) (fun hb4 => ?_) (fun hb4 => ?_)
              · have hb4p := of_decide_eq_true hb4
                refine RS.off (dj := 38) rfl (.inl (congrArg Value.bool hb4)) (fun _ => rfl) rfl ?_
                refine RS.off (dj := 38) rfl (.inl (congrArg Value.bool hb4)) (fun _ => rfl) rfl ?_
                refine RS.q rfl (QO.pickT (by rfl) hb4 (by rfl)) ?_
                refine RS.q rfl (QO.move) ?_
                refine RS.off (dj := 42) rfl (.inl (congrArg Value.bool rfl)) (fun _ => rfl) rfl ?_
                refine RS.off (dj := 42) rfl (.inl (congrArg Value.bool rfl)) (fun _ => rfl) rfl ?_
                refine RS.q rfl (QO.pickT (by rfl) rfl (by rfl)) ?_
                refine RS.nil ?_
                refine thenC_n ?_
                refine CS.condT (by rfl) rfl ?_
                refine CS.seq ?_
                refine CS.region ?_
                refine RS.q rfl (QO.build ty59 pl59 (by rfl)) ?_
                first | refine RS.storeB ty59 (by rfl) (by rfl) (by rfl) (by rfl) (by rfl) (by repeat (first | exact Upd.head | apply Upd.tail)) (by rfl) ?_ | refine RS.storeP ty59 (by rfl) (by rfl) (by rfl) (by rfl) (by rfl) (by repeat (first | exact Upd.head | apply Upd.tail)) (by rfl) ?_
                refine RS.q rfl (QO.assign) ?_
                refine RS.nil ?_
                refine thenC_n ?_
                refine CS.ret ?_
                refine thenC_r ?_
                refine blockC_r ?_
                refine thenC_r ?_
                refine loopQ_r ?_
                refine blockC_r ?_
                refine cutQ_r ?_
                refine retQ.mk (H' := []) (.inr rfl) (RVs.cellA ty59 (by rfl) (by repeat (first | exact List.Mem.head _ | refine List.Mem.tail _ ?_)) (by rfl) (RVs.tmp (by rfl) RVs.nil)) (List.nil_sublist _) ?_
                first | exact ⟨prs_err (prsE_1 hb0p) (by decide), rfl⟩ | exact ⟨prs_err (prsE_9a (by assumption) (by omega)) (by decide), rfl⟩ | exact ⟨(prs_err (prsE_9b hs (j := 3 * k) (by omega) (chk_a (by omega) (dg_no (by omega)))) (by decide)), rfl⟩ | exact ⟨(prs_err (prsE_9b hs (j := 3 * k + 1) (by omega) (chk_b (by omega) (dg_no (by omega)))) (by decide)), rfl⟩ | exact ⟨prs_err (prsE_9c hs (fun hh => bne_iff_ne.1 (by assumption) ((form_iff hl11 hdd).2 hh))) (by decide), rfl⟩ | exact ⟨prs_err (prsE_c hs hl11 hall) (by assumption), rfl⟩ | exact ⟨prs_ok ((prsE_c hs hl11 hall).trans (of_bne_false (by assumption))), rfl⟩
              · have hb4p := of_decide_eq_false hb4
                refine RS.on (dj := 38) rfl (congrArg Value.bool hb4) ?_
                refine RS.q rfl (QO.move) ?_
                refine RS.on (dj := 38) rfl (congrArg Value.bool hb4) ?_
                refine RS.q rfl (QO.lss (by rfl) (by rfl)) ?_
                refine RS.q rfl (QO.pickF (by rfl) hb4 (by rfl)) ?_
                refine RS.q rfl (QO.move) ?_
                refine RS.split (dj := 42) (by rfl) (fun hb5 => ?_) (fun hb5 => ?_)
                · have hb5p := of_decide_eq_true hb5
                  refine RS.off (dj := 42) rfl (.inl (congrArg Value.bool hb5)) (fun _ => rfl) rfl ?_
                  refine RS.off (dj := 42) rfl (.inl (congrArg Value.bool hb5)) (fun _ => rfl) rfl ?_
                  refine RS.q rfl (QO.pickT (by rfl) hb5 (by rfl)) ?_
                  refine RS.nil ?_
                  refine thenC_n ?_
                  refine CS.condT (by rfl) rfl ?_
                  refine CS.seq ?_
                  refine CS.region ?_
                  refine RS.q rfl (QO.build ty59 pl59 (by rfl)) ?_
                  first | refine RS.storeB ty59 (by rfl) (by rfl) (by rfl) (by rfl) (by rfl) (by repeat (first | exact Upd.head | apply Upd.tail)) (by rfl) ?_ | refine RS.storeP ty59 (by rfl) (by rfl) (by rfl) (by rfl) (by rfl) (by repeat (first | exact Upd.head | apply Upd.tail)) (by rfl) ?_
                  refine RS.q rfl (QO.assign) ?_
                  refine RS.nil ?_
                  refine thenC_n ?_
                  refine CS.ret ?_
                  refine thenC_r ?_
                  refine blockC_r ?_
                  refine thenC_r ?_
                  refine loopQ_r ?_
                  refine blockC_r ?_
                  refine cutQ_r ?_
                  refine retQ.mk (H' := []) (.inr rfl) (RVs.cellA ty59 (by rfl) (by repeat (first | exact List.Mem.head _ | refine List.Mem.tail _ ?_)) (by rfl) (RVs.tmp (by rfl) RVs.nil)) (List.nil_sublist _) ?_
                  first | exact ⟨prs_err (prsE_1 hb0p) (by decide), rfl⟩ | exact ⟨prs_err (prsE_9a (by assumption) (by omega)) (by decide), rfl⟩ | exact ⟨(prs_err (prsE_9b hs (j := 3 * k) (by omega) (chk_a (by omega) (dg_no (by omega)))) (by decide)), rfl⟩ | exact ⟨(prs_err (prsE_9b hs (j := 3 * k + 1) (by omega) (chk_b (by omega) (dg_no (by omega)))) (by decide)), rfl⟩ | exact ⟨prs_err (prsE_9c hs (fun hh => bne_iff_ne.1 (by assumption) ((form_iff hl11 hdd).2 hh))) (by decide), rfl⟩ | exact ⟨prs_err (prsE_c hs hl11 hall) (by assumption), rfl⟩ | exact ⟨prs_ok ((prsE_c hs hl11 hall).trans (of_bne_false (by assumption))), rfl⟩
                · have hb5p := of_decide_eq_false hb5
                  refine RS.on (dj := 42) rfl (congrArg Value.bool hb5) ?_
                  refine RS.q rfl (QO.move) ?_
                  refine RS.on (dj := 42) rfl (congrArg Value.bool hb5) ?_
                  refine RS.q rfl (QO.gtr (by rfl) (by rfl)) ?_
                  refine RS.q rfl (QO.pickF (by rfl) hb5 (by rfl)) ?_
                  refine RS.nil ?_
                  refine thenC_n ?_
                  refine CS.cond (by rfl) (fun hb6 => ?_) (fun hb6 => ?_)
                  · have hb6p := of_decide_eq_true hb6
                    refine CS.seq ?_
                    refine CS.region ?_
                    refine RS.q rfl (QO.build ty59 pl59 (by rfl)) ?_
                    first | refine RS.storeB ty59 (by rfl) (by rfl) (by rfl) (by rfl) (by rfl) (by repeat (first | exact Upd.head | apply Upd.tail)) (by rfl) ?_ | refine RS.storeP ty59 (by rfl) (by rfl) (by rfl) (by rfl) (by rfl) (by repeat (first | exact Upd.head | apply Upd.tail)) (by rfl) ?_
                    refine RS.q rfl (QO.assign) ?_
                    refine RS.nil ?_
                    refine thenC_n ?_
                    refine CS.ret ?_
                    refine thenC_r ?_
                    refine blockC_r ?_
                    refine thenC_r ?_
                    refine loopQ_r ?_
                    refine blockC_r ?_
                    refine cutQ_r ?_
                    refine retQ.mk (H' := []) (.inr rfl) (RVs.cellA ty59 (by rfl) (by repeat (first | exact List.Mem.head _ | refine List.Mem.tail _ ?_)) (by rfl) (RVs.tmp (by rfl) RVs.nil)) (List.nil_sublist _) ?_
                    first | exact ⟨prs_err (prsE_1 hb0p) (by decide), rfl⟩ | exact ⟨prs_err (prsE_9a (by assumption) (by omega)) (by decide), rfl⟩ | exact ⟨(prs_err (prsE_9b hs (j := 3 * k) (by omega) (chk_a (by omega) (dg_no (by omega)))) (by decide)), rfl⟩ | exact ⟨(prs_err (prsE_9b hs (j := 3 * k + 1) (by omega) (chk_b (by omega) (dg_no (by omega)))) (by decide)), rfl⟩ | exact ⟨prs_err (prsE_9c hs (fun hh => bne_iff_ne.1 (by assumption) ((form_iff hl11 hdd).2 hh))) (by decide), rfl⟩ | exact ⟨prs_err (prsE_c hs hl11 hall) (by assumption), rfl⟩ | exact ⟨prs_ok ((prsE_c hs hl11 hall).trans (of_bne_false (by assumption))), rfl⟩
                  · have hb6p := of_decide_eq_false hb6
                    refine CS.skip ?_
                    refine thenC_n ?_
                    refine CS.region ?_
                    have hda : dg (l.getD (3 * k) 0) = true := dg_yes (by omega) (by omega)
                    have hdb : dg (l.getD (3 * k + 1) 0) = true := dg_yes (by omega) (by omega)
                    have hub := (l.getD (3 * k) 0).toNat_lt
                    have hub2 := (l.getD (3 * k + 1) 0).toNat_lt
                    refine RS.q rfl (QO.move) ?_
                    refine RS.q rfl (QO.move) ?_
                    refine RS.qv rfl (QO.ibin (by rfl) (by rfl) trivial) (congrArg (Value.int .u8) (u8_sub hda)) ?_
                    refine RS.qv rfl (QO.conv_int Tryd.underlying5 Tryd.underlying3 (by rfl)) (congrArg iv (w64 (a := (((l.getD (3 * k) 0).toNat - 48 : Nat) : Int)) (by omega) (by omega))) ?_
                    first | (refine RS.q rfl (QO.mul (by rfl) (by rfl) (by omega) (by omega)) ?_) | (refine RS.q rfl (QO.ibin (by rfl) (by rfl) trivial) ?_)
                    refine RS.q rfl (QO.move) ?_
                    refine RS.qv rfl (QO.ibin (by rfl) (by rfl) trivial) (congrArg (Value.int .u8) (u8_sub hdb)) ?_
                    refine RS.qv rfl (QO.conv_int Tryd.underlying5 Tryd.underlying3 (by rfl)) (congrArg iv (w64 (a := (((l.getD (3 * k + 1) 0).toNat - 48 : Nat) : Int)) (by omega) (by omega))) ?_
                    first | (refine RS.q rfl (QO.add (by rfl) (by rfl) (by omega) (by omega)) ?_) | (refine RS.q rfl (QO.ibin (by rfl) (by rfl) trivial) ?_)
                    first | (refine RS.q rfl (QO.idxArr0 Tryd.underlying139 ty3 (by rfl) (by rfl) (by rfl) (by omega)) ?_) | (refine RS.q rfl (QO.idxArrn Tryd.underlying139 ty3 (by rfl) (by rfl) (by rfl) (by omega)) ?_) | (refine RS.q rfl (QO.idxArr Tryd.underlying139 ty3 (by rfl) (by rfl) (by omega) (by omega)) ?_)
                    refine RS.store1e ty3 rfl (by rfl) (by rfl) (by rfl) (rL_set (by omega) fld_eq) (by repeat (first | exact Upd.head | apply Upd.tail)) (by show k < 4; omega) ?_
                    refine RS.nil ?_
                    refine blockC_n ?_
                    refine thenC_n ?_
                    refine CS.region ?_
                    first | (refine RS.q rfl (QO.add (by rfl) (by rfl) (by omega) (by omega)) ?_) | (refine RS.q rfl (QO.ibin (by rfl) (by rfl) trivial) ?_)
                    have hl11 : l.length = 11 := by omega
                    refine RS.q rfl (QO.move) ?_
                    refine RS.nil ?_
                    refine loopQ_n (by intro t ht; repeat (first | with_reducible exact rfl | exact frame_puts ht (frame_mix ht) _ rfl | (refine frame_put rfl ht ?_) | (refine frame_puts ht ?_ _ rfl) | exact frame_mix ht | (refine frame_mix2 rfl ht ?_) | exact rfl)) ?_
                    exact ⟨k + 1, ⟨by omega, fun j hj => by
                        by_cases e : j = k
                        · subst e; exact ⟨hda, hdb⟩
                        · exact hdg j (by omega)⟩, by omega, (by repeat (first | exact kn_nil | refine kn_cons (by rfl) ?_)), (by repeat (first | exact List.Sublist.refl _ | exact List.nil_sublist _ | refine List.Sublist.cons_cons _ ?_ | refine List.Sublist.cons _ ?_ | exact Sbp.refl | exact Sbp.nil | refine Sbp.cons (by repeat (first | exact Rem.head | apply Rem.tail)) ?_ | exact Sbp.app | refine Sbp.skip ?_))⟩
          · have hb2p := of_decide_eq_false hb2
            refine CS.exit ?_
            refine thenC_x ?_
            refine loopQ_x ?_
            refine blockC_x ?_
            refine cutQ_n (by intro t ht; repeat (first | with_reducible exact rfl | exact frame_puts ht (frame_mix ht) _ rfl | (refine frame_put rfl ht ?_) | (refine frame_puts ht ?_ _ rfl) | exact frame_mix ht | (refine frame_mix2 rfl ht ?_) | exact rfl)) ?_
            exact ⟨(), fun j hj => hdg j (by omega), (by repeat (first | exact kn_nil | refine kn_cons (by rfl) ?_)), (by rw [show k = 4 by omega]; exact (by repeat (first | exact List.Sublist.refl _ | exact List.nil_sublist _ | refine List.Sublist.cons_cons _ ?_ | refine List.Sublist.cons _ ?_ | exact Sbp.refl | exact Sbp.nil | refine Sbp.cons (by repeat (first | exact Rem.head | apply Rem.tail)) ?_ | exact Sbp.app | refine Sbp.skip ?_)))⟩
      · intro z gj hz
        have hdd := hz
        clear hz
        have hl11 : l.length = 11 := by omega
        have hf0 := fld_bd (hdd 0 (by omega))
        have hf1 := fld_bd (hdd 1 (by omega))
        have hf2 := fld_bd (hdd 2 (by omega))
        have hf3 := fld_bd (hdd 3 (by omega))
        refine CS.seq ?_
        refine CS.region ?_
        first | (refine RS.q rfl (QO.idxArr0 Tryd.underlying139 ty3 (by rfl) (by rfl) (by rfl) (by omega)) ?_) | (refine RS.q rfl (QO.idxArrn Tryd.underlying139 ty3 (by rfl) (by rfl) (by rfl) (by omega)) ?_) | (refine RS.q rfl (QO.idxArr Tryd.underlying139 ty3 (by rfl) (by rfl) (by omega) (by omega)) ?_)
        first | (refine RS.q rfl (QO.load ty3 (by rfl) (by repeat (first | exact List.Mem.head _ | refine List.Mem.tail _ ?_)) (by rfl)) ?_) | (refine RS.q rfl (QO.loadO ty3 (by rfl) (by assumption)) ?_) | (refine RS.q rfl (QO.load ty3 (by rfl) (by repeat (first | exact List.Mem.head _ | refine List.Mem.tail _ ?_)) (by assumption)) ?_)
        first | (refine RS.q rfl (QO.idxArr0 Tryd.underlying139 ty3 (by rfl) (by rfl) (by rfl) (by omega)) ?_) | (refine RS.q rfl (QO.idxArrn Tryd.underlying139 ty3 (by rfl) (by rfl) (by rfl) (by omega)) ?_) | (refine RS.q rfl (QO.idxArr Tryd.underlying139 ty3 (by rfl) (by rfl) (by omega) (by omega)) ?_)
        first | (refine RS.q rfl (QO.load ty3 (by rfl) (by repeat (first | exact List.Mem.head _ | refine List.Mem.tail _ ?_)) (by rfl)) ?_) | (refine RS.q rfl (QO.loadO ty3 (by rfl) (by assumption)) ?_) | (refine RS.q rfl (QO.load ty3 (by rfl) (by repeat (first | exact List.Mem.head _ | refine List.Mem.tail _ ?_)) (by assumption)) ?_)
        first | (refine RS.q rfl (QO.idxArr0 Tryd.underlying139 ty3 (by rfl) (by rfl) (by rfl) (by omega)) ?_) | (refine RS.q rfl (QO.idxArrn Tryd.underlying139 ty3 (by rfl) (by rfl) (by rfl) (by omega)) ?_) | (refine RS.q rfl (QO.idxArr Tryd.underlying139 ty3 (by rfl) (by rfl) (by omega) (by omega)) ?_)
        first | (refine RS.q rfl (QO.load ty3 (by rfl) (by repeat (first | exact List.Mem.head _ | refine List.Mem.tail _ ?_)) (by rfl)) ?_) | (refine RS.q rfl (QO.loadO ty3 (by rfl) (by assumption)) ?_) | (refine RS.q rfl (QO.load ty3 (by rfl) (by repeat (first | exact List.Mem.head _ | refine List.Mem.tail _ ?_)) (by assumption)) ?_)
        first | (refine RS.q rfl (QO.idxArr0 Tryd.underlying139 ty3 (by rfl) (by rfl) (by rfl) (by omega)) ?_) | (refine RS.q rfl (QO.idxArrn Tryd.underlying139 ty3 (by rfl) (by rfl) (by rfl) (by omega)) ?_) | (refine RS.q rfl (QO.idxArr Tryd.underlying139 ty3 (by rfl) (by rfl) (by omega) (by omega)) ?_)
        first | (refine RS.q rfl (QO.load ty3 (by rfl) (by repeat (first | exact List.Mem.head _ | refine List.Mem.tail _ ?_)) (by rfl)) ?_) | (refine RS.q rfl (QO.loadO ty3 (by rfl) (by assumption)) ?_) | (refine RS.q rfl (QO.load ty3 (by rfl) (by repeat (first | exact List.Mem.head _ | refine List.Mem.tail _ ?_)) (by assumption)) ?_)
        refine RS.qv rfl (QO.build ty59 pl59 (by rfl)) ((show _ = Value.agg #[iv (fld l 0 : Nat), iv (fld l 1 : Nat), iv (fld l 2 : Nat), iv (fld l 3 : Nat)] from rfl)) ?_
        refine RS.alloc rfl ty59 ?_
        intro g10
        first | refine RS.storeB ty59 (by rfl) (by rfl) (by rfl) (by rfl) (by rfl) (by repeat (first | exact Upd.head | apply Upd.tail)) (by rfl) ?_ | refine RS.storeP ty59 (by rfl) (by rfl) (by rfl) (by rfl) (by rfl) (by repeat (first | exact Upd.head | apply Upd.tail)) (by rfl) ?_
        refine RS.nil ?_
        refine thenC_n ?_
        refine CS.seq ?_
        refine CS.seq ?_
        refine CS.region ?_
        refine RS.q rfl (QO.move) ?_
        first | (refine RS.q rfl (QO.loadB ty59 (by rfl) (by repeat (first | exact List.Mem.head _ | refine List.Mem.tail _ ?_)) (by rfl)) ?_) | (refine RS.q rfl (QO.loadA ty59 (by rfl) (by repeat (first | exact List.Mem.head _ | refine List.Mem.tail _ ?_)) (by rfl) (by rfl)) ?_) | (refine RS.q rfl (QO.loadOA ty59 (by rfl) (by assumption) (by rfl)) ?_)
        refine RS.call rfl (by rfl) ok34 (by rfl) (fun w ho => rprintCode rate (fld l 0) (fld l 1) (fld l 2) (fld l 3) _ hf0 hf1 hf2 hf3) ?_
        rintro _ _ ⟨rfl, rfl⟩
        refine RS.q rfl (QO.move) ?_
        refine RS.q rfl (QO.strne (by rfl) (by rfl)) ?_
        refine RS.nil ?_
        refine thenC_n ?_
        refine CS.cond (by rfl) (fun hb7 => ?_) (fun hb7 => ?_)
        · refine CS.seq ?_
          refine CS.region ?_
          refine RS.q rfl (QO.build ty59 pl59 (by rfl)) ?_
          first | refine RS.storeB ty59 (by rfl) (by rfl) (by rfl) (by rfl) (by rfl) (by repeat (first | exact Upd.head | apply Upd.tail)) (by rfl) ?_ | refine RS.storeP ty59 (by rfl) (by rfl) (by rfl) (by rfl) (by rfl) (by repeat (first | exact Upd.head | apply Upd.tail)) (by rfl) ?_
          refine RS.q rfl (QO.assign) ?_
          refine RS.nil ?_
          refine thenC_n ?_
          refine CS.ret ?_
          refine thenC_r ?_
          refine retQ.mk (H' := []) (.inr rfl) (RVs.cellA ty59 (by rfl) (by repeat (first | exact List.Mem.head _ | refine List.Mem.tail _ ?_)) (by rfl) (RVs.tmp (by rfl) RVs.nil)) (List.nil_sublist _) ?_
          first | exact ⟨prs_err (prsE_1 hb0p) (by decide), rfl⟩ | exact ⟨prs_err (prsE_9a (by assumption) (by omega)) (by decide), rfl⟩ | exact ⟨(prs_err (prsE_9b hs (j := 3 * k) (by omega) (chk_a (by omega) (dg_no (by omega)))) (by decide)), rfl⟩ | exact ⟨(prs_err (prsE_9b hs (j := 3 * k + 1) (by omega) (chk_b (by omega) (dg_no (by omega)))) (by decide)), rfl⟩ | exact ⟨prs_err (prsE_9c hs (fun hh => bne_iff_ne.1 (by assumption) ((form_iff hl11 hdd).2 hh))) (by decide), rfl⟩ | exact ⟨prs_err (prsE_c hs hl11 hall) (by assumption), rfl⟩ | exact ⟨prs_ok ((prsE_c hs hl11 hall).trans (of_bne_false (by assumption))), rfl⟩
        · refine CS.skip ?_
          refine thenC_n ?_
          refine CS.seq ?_
          refine CS.seq ?_
          refine CS.region ?_
          have hall := (form_iff (r := rate) hl11 hdd).1 (of_bne_false (by assumption))
          refine RS.q rfl (QO.move) ?_
          first | (refine RS.q rfl (QO.loadB ty59 (by rfl) (by repeat (first | exact List.Mem.head _ | refine List.Mem.tail _ ?_)) (by rfl)) ?_) | (refine RS.q rfl (QO.loadA ty59 (by rfl) (by repeat (first | exact List.Mem.head _ | refine List.Mem.tail _ ?_)) (by rfl) (by rfl)) ?_) | (refine RS.q rfl (QO.loadOA ty59 (by rfl) (by assumption) (by rfl)) ?_)
          refine RS.call rfl (by rfl) ok29 (by rfl) (fun w ho => codeError _ _ _ _ _ _) ?_
          rintro _ _ ⟨rfl, rfl⟩
          refine RS.q rfl (QO.assign) ?_
          refine RS.nil ?_
          refine thenC_n ?_
          refine CS.seq ?_
          refine CS.region ?_
          refine RS.q rfl (QO.move) ?_
          refine RS.q rfl (QO.neq (by rfl) (by rfl)) ?_
          refine RS.nil ?_
          refine thenC_n ?_
          refine CS.cond (by rfl) (fun hb8 => ?_) (fun hb8 => ?_)
          · have hb8p := bne_iff_ne.1 hb8
            refine CS.seq ?_
            refine CS.region ?_
            refine RS.q rfl (QO.build ty59 pl59 (by rfl)) ?_
            refine RS.q rfl (QO.move) ?_
            first | refine RS.storeB ty59 (by rfl) (by rfl) (by rfl) (by rfl) (by rfl) (by repeat (first | exact Upd.head | apply Upd.tail)) (by rfl) ?_ | refine RS.storeP ty59 (by rfl) (by rfl) (by rfl) (by rfl) (by rfl) (by repeat (first | exact Upd.head | apply Upd.tail)) (by rfl) ?_
            refine RS.q rfl (QO.assign) ?_
            refine RS.nil ?_
            refine thenC_n ?_
            refine CS.ret ?_
            refine thenC_r ?_
            refine retQ.mk (H' := []) (.inr rfl) (RVs.cellA ty59 (by rfl) (by repeat (first | exact List.Mem.head _ | refine List.Mem.tail _ ?_)) (by rfl) (RVs.tmp (by rfl) RVs.nil)) (List.nil_sublist _) ?_
            first | exact ⟨prs_err (prsE_1 hb0p) (by decide), rfl⟩ | exact ⟨prs_err (prsE_9a (by assumption) (by omega)) (by decide), rfl⟩ | exact ⟨(prs_err (prsE_9b hs (j := 3 * k) (by omega) (chk_a (by omega) (dg_no (by omega)))) (by decide)), rfl⟩ | exact ⟨(prs_err (prsE_9b hs (j := 3 * k + 1) (by omega) (chk_b (by omega) (dg_no (by omega)))) (by decide)), rfl⟩ | exact ⟨prs_err (prsE_9c hs (fun hh => bne_iff_ne.1 (by assumption) ((form_iff hl11 hdd).2 hh))) (by decide), rfl⟩ | exact ⟨prs_err (prsE_c hs hl11 hall) (by assumption), rfl⟩ | exact ⟨prs_ok ((prsE_c hs hl11 hall).trans (of_bne_false (by assumption))), rfl⟩
          · have hb8p := of_bne_false hb8
            refine CS.skip ?_
            refine thenC_n ?_
            refine CS.seq ?_
            refine CS.region ?_
            first | (refine RS.q rfl (QO.loadB ty59 (by rfl) (by repeat (first | exact List.Mem.head _ | refine List.Mem.tail _ ?_)) (by rfl)) ?_) | (refine RS.q rfl (QO.loadA ty59 (by rfl) (by repeat (first | exact List.Mem.head _ | refine List.Mem.tail _ ?_)) (by rfl) (by rfl)) ?_) | (refine RS.q rfl (QO.loadOA ty59 (by rfl) (by assumption) (by rfl)) ?_)
            first | refine RS.storeB ty59 (by rfl) (by rfl) (by rfl) (by rfl) (by rfl) (by repeat (first | exact Upd.head | apply Upd.tail)) (by rfl) ?_ | refine RS.storeP ty59 (by rfl) (by rfl) (by rfl) (by rfl) (by rfl) (by repeat (first | exact Upd.head | apply Upd.tail)) (by rfl) ?_
            refine RS.q rfl (QO.assign) ?_
            refine RS.nil ?_
            refine thenC_n ?_
            refine CS.ret ?_
            refine retQ.mk (H' := []) (.inr rfl) (RVs.cellA ty59 (by rfl) (by repeat (first | exact List.Mem.head _ | refine List.Mem.tail _ ?_)) (by rfl) (RVs.tmp (by rfl) RVs.nil)) (List.nil_sublist _) ?_
            first | exact ⟨prs_err (prsE_1 hb0p) (by decide), rfl⟩ | exact ⟨prs_err (prsE_9a (by assumption) (by omega)) (by decide), rfl⟩ | exact ⟨(prs_err (prsE_9b hs (j := 3 * k) (by omega) (chk_a (by omega) (dg_no (by omega)))) (by decide)), rfl⟩ | exact ⟨(prs_err (prsE_9b hs (j := 3 * k + 1) (by omega) (chk_b (by omega) (dg_no (by omega)))) (by decide)), rfl⟩ | exact ⟨prs_err (prsE_9c hs (fun hh => bne_iff_ne.1 (by assumption) ((form_iff hl11 hdd).2 hh))) (by decide), rfl⟩ | exact ⟨prs_err (prsE_c hs hl11 hall) (by assumption), rfl⟩ | exact ⟨prs_ok ((prsE_c hs hl11 hall).trans (of_bne_false (by assumption))), rfl⟩

theorem rprintI (rate h m s f : Int) (W : World) (hok : codE rate h m s f = 0) : Fn_ Tryd.prog 34 #[iv rate, .agg #[iv h, iv m, iv s, iv f]] W (fun v H => v = sv (prt rate h.toNat m.toNat s.toNat f.toNat) ∧ H = []) := by
  have hc := codE_ok hok
  have hsb := sec_bd rate
  obtain ⟨h', e1⟩ : ∃ k : Nat, h = k := ⟨h.toNat, by omega⟩
  obtain ⟨m', e2⟩ : ∃ k : Nat, m = k := ⟨m.toNat, by omega⟩
  obtain ⟨s', e3⟩ : ∃ k : Nat, s = k := ⟨s.toNat, by omega⟩
  obtain ⟨f', e4⟩ : ∃ k : Nat, f = k := ⟨f.toNat, by omega⟩
  subst e1 e2 e3 e4
  exact rprintCode rate h' m' s' f' W (by omega) (by omega) (by omega) (by omega)
theorem prs_round {r h m s f : Int} (e : codE r h m s f = 0) : prsVal r (prtI r h m s f) = .tuple #[.agg #[iv h, iv m, iv s, iv f], iv 0] := by
  have hc := codE_ok e
  have h1 : prtI r h m s f = prt r h.toNat m.toNat s.toNat f.toNat := if_pos e
  have e0 : codE r (h.toNat : Nat) (m.toNat : Nat) (s.toNat : Nat) (f.toNat : Nat) = 0 := by
    rw [Int.toNat_of_nonneg hc.2.1, Int.toNat_of_nonneg hc.2.2.2.1, Int.toNat_of_nonneg hc.2.2.2.2.2.1, Int.toNat_of_nonneg hc.2.2.2.2.2.2.2.1]; exact e
  obtain ⟨p1, p2, p3, p4, p5⟩ := prs_prt e0
  rw [h1, ← prs_ok p1, p2, p3, p4, p5, Int.toNat_of_nonneg hc.2.1, Int.toNat_of_nonneg hc.2.2.2.1, Int.toNat_of_nonneg hc.2.2.2.2.2.1, Int.toNat_of_nonneg hc.2.2.2.2.2.2.2.1]
theorem prtI_len (r h m s f : Int) : (prtI r h m s f).length ≤ maxLen := by
  unfold prtI; split
  · rw [prt_len]; decide
  · decide
theorem frm_round {r q : Int} (h : sec r ≠ 0) (h0 : 0 ≤ q) (h1 : q < dayN r) : frmV r (cdH r q) (cdM r q) (cdS r q) (cdF r q) = .tuple #[iv q, iv 0] := by
  obtain ⟨a, b⟩ := code_of h h0 h1
  rw [← frm_k a b.symm]
theorem codE_z {r : Int} (h : sec r ≠ 0) : codE r 0 0 0 0 = 0 := by
  have := sec_bd r
  exact codE_0 h (by omega) (fun hh => hh.2.1 rfl)

set_option maxHeartbeats 4000000 in
set_option maxRecDepth 100000 in
theorem codesMatch (rate n h m s f : Int) (l : List UInt8) (W : World) (hn : -9223372036854775808 ≤ n ∧ n ≤ 9223372036854775807) (hl : l.length ≤ maxLen) : Fn_ Tryd.prog 6 #[iv rate, iv n, .agg #[iv h, iv m, iv s, iv f], sv l] W (fun v H => v = .bool true ∧ H = []) := by
  refine Fn_.intro Tryd.func6 rfl rfl (by rfl) ?_
  refine CS.seq ?_
  refine CS.region ?_
  refine RS.box rfl (by rfl) (by rfl) ?_
  intro g6
  refine RS.q rfl (QO.assign) ?_
  refine RS.nil ?_
  refine thenC_n ?_
  refine CS.seq ?_
  refine CS.seq ?_
  refine CS.region ?_
  refine RS.call rfl (by rfl) ok11 (by rfl) (fun w ho => landed _) ?_
  rintro _ _ ⟨rfl, rfl⟩
  refine RS.q rfl (QO.not (by rfl)) ?_
  refine RS.nil ?_
  refine thenC_n ?_
  refine CS.condF (by rfl) rfl ?_
  refine CS.skip ?_
  refine thenC_n ?_
  refine CS.seq ?_
  refine CS.region ?_
  refine RS.q rfl (QO.move) ?_
  first | (refine RS.q rfl (QO.loadB ty59 (by rfl) (by repeat (first | exact List.Mem.head _ | refine List.Mem.tail _ ?_)) (by rfl)) ?_) | (refine RS.q rfl (QO.loadA ty59 (by rfl) (by repeat (first | exact List.Mem.head _ | refine List.Mem.tail _ ?_)) (by rfl) (by rfl)) ?_) | (refine RS.q rfl (QO.loadOA ty59 (by rfl) (by assumption) (by rfl)) ?_)
  refine RS.call rfl (by rfl) ok29 (by rfl) (fun w ho => codeError _ _ _ _ _ _) ?_
  rintro _ _ ⟨rfl, rfl⟩
  refine RS.q rfl (QO.assign) ?_
  refine RS.nil ?_
  refine thenC_n ?_
  refine CS.seq ?_
  refine CS.region ?_
  refine RS.q rfl (QO.move) ?_
  first | (refine RS.q rfl (QO.loadB ty59 (by rfl) (by repeat (first | exact List.Mem.head _ | refine List.Mem.tail _ ?_)) (by rfl)) ?_) | (refine RS.q rfl (QO.loadA ty59 (by rfl) (by repeat (first | exact List.Mem.head _ | refine List.Mem.tail _ ?_)) (by rfl) (by rfl)) ?_) | (refine RS.q rfl (QO.loadOA ty59 (by rfl) (by assumption) (by rfl)) ?_)
  refine RS.call rfl (by rfl) ok30 (by rfl) (fun w ho => frames_ _ _ _ _ _ _) ?_
  rintro _ _ ⟨rfl, rfl⟩
  refine RS.q rfl (QO.move) ?_
  refine RS.q rfl (QO.extract (by rfl) (by rfl)) ?_
  refine RS.q rfl (QO.extract (by rfl) (by rfl)) ?_
  refine RS.q rfl (QO.assign) ?_
  refine RS.q rfl (QO.assign) ?_
  refine RS.nil ?_
  refine thenC_n ?_
  refine CS.seq ?_
  refine CS.region ?_
  refine RS.q rfl (QO.move) ?_
  first | (refine RS.q rfl (QO.loadB ty59 (by rfl) (by repeat (first | exact List.Mem.head _ | refine List.Mem.tail _ ?_)) (by rfl)) ?_) | (refine RS.q rfl (QO.loadA ty59 (by rfl) (by repeat (first | exact List.Mem.head _ | refine List.Mem.tail _ ?_)) (by rfl) (by rfl)) ?_) | (refine RS.q rfl (QO.loadOA ty59 (by rfl) (by assumption) (by rfl)) ?_)
  refine RS.call rfl (by rfl) ok31 (by rfl) (fun w ho => printCode _ _ _ _ _ _) ?_
  rintro _ _ ⟨rfl, rfl⟩
  refine RS.q rfl (QO.move) ?_
  refine RS.q rfl (QO.extract (by rfl) (by rfl)) ?_
  refine RS.q rfl (QO.extract (by rfl) (by rfl)) ?_
  refine RS.q rfl (QO.assign) ?_
  refine RS.q rfl (QO.assign) ?_
  refine RS.nil ?_
  refine thenC_n ?_
  refine CS.seq ?_
  refine CS.seq ?_
  refine CS.region ?_
  refine RS.q rfl (QO.move) ?_
  refine RS.q rfl (QO.move) ?_
  refine RS.qv rfl (QO.neq (by rfl) (by rfl)) (congrArg Value.bool (bne_self_eq_false _)) ?_
  refine RS.q rfl (QO.move) ?_
  refine RS.on (dj := 41) rfl (congrArg Value.bool rfl) ?_
  refine RS.q rfl (QO.move) ?_
  refine RS.on (dj := 41) rfl (congrArg Value.bool rfl) ?_
  refine RS.q rfl (QO.move) ?_
  refine RS.on (dj := 41) rfl (congrArg Value.bool rfl) ?_
  refine RS.qv rfl (QO.neq (by rfl) (by rfl)) (congrArg Value.bool (bne_self_eq_false _)) ?_
  refine RS.q rfl (QO.pickF (by rfl) rfl (by rfl)) ?_
  refine RS.nil ?_
  refine thenC_n ?_
  refine CS.condF (by rfl) rfl ?_
  refine CS.skip ?_
  refine thenC_n ?_
  refine CS.cut (X := Unit) (8 :: 14 :: 15 :: 46 :: 47 :: 48 :: 49 :: 50 :: 51 :: 52 :: 53 :: 54 :: 55 :: 56 :: 57 :: 58 :: 59 :: 60 :: 61 :: 62 :: 63 :: 64 :: 65 :: 66 :: 67 :: 68 :: 69 :: 70 :: 71 :: 72 :: 73 :: 74 :: 75 :: 76 :: 77 :: 78 :: 79 :: 80 :: []) (fun z => []) (fun z => [⟨g6, 59, [iv h, iv m, iv s, iv f]⟩]) (fun z => True) ?_ ?_
  · refine CS.seq ?_
    refine CS.region ?_
    refine RS.q rfl (QO.move) ?_
    refine RS.q rfl (QO.neq (by rfl) (by rfl)) ?_
    refine RS.nil ?_
    refine thenC_n ?_
    refine CS.cond (by rfl) (fun hb0 => ?_) (fun hb0 => ?_)
    · have hb0p := bne_iff_ne.1 hb0
      refine CS.seq ?_
      refine CS.region ?_
      refine RS.q rfl (QO.move) ?_
      refine RS.qv rfl (QO.neq (by rfl) (by rfl)) (congrArg Value.bool (show ((if codE rate h m s f = 0 then frmN rate h m s f else 0) != 0) = false from by rw [if_neg hb0p]; rfl)) ?_
      refine RS.q rfl (QO.move) ?_
      refine RS.on (dj := 50) rfl (congrArg Value.bool rfl) ?_
      refine RS.q rfl (QO.move) ?_
      refine RS.on (dj := 50) rfl (congrArg Value.bool rfl) ?_
      refine RS.qv rfl (QO.strne (by rfl) (by rfl)) (congrArg Value.bool (show (prtI rate h m s f != []) = false from by unfold prtI; rw [if_neg hb0p]; rfl)) ?_
      refine RS.q rfl (QO.pickF (by rfl) rfl (by rfl)) ?_
      refine RS.nil ?_
      refine thenC_n ?_
      refine CS.condF (by rfl) rfl ?_
      refine CS.skip ?_
      refine cutQ_n (by intro t ht; repeat (first | with_reducible exact rfl | exact frame_puts ht (frame_mix ht) _ rfl | (refine frame_put rfl ht ?_) | (refine frame_puts ht ?_ _ rfl) | exact frame_mix ht | (refine frame_mix2 rfl ht ?_) | exact rfl)) ?_
      exact ⟨(), trivial, (by repeat (first | exact kn_nil | refine kn_cons (by rfl) ?_)), (by repeat (first | exact List.Sublist.refl _ | exact List.nil_sublist _ | refine List.Sublist.cons_cons _ ?_ | refine List.Sublist.cons _ ?_ | exact Sbp.refl | exact Sbp.nil | refine Sbp.cons (by repeat (first | exact Rem.head | apply Rem.tail)) ?_ | exact Sbp.app | refine Sbp.skip ?_))⟩
    · have hb0p := of_bne_false hb0
      refine CS.seq ?_
      refine CS.region ?_
      have hok := of_bne_false hb0
      refine RS.q rfl (QO.move) ?_
      refine RS.q rfl (QO.move) ?_
      refine RS.call rfl (by rfl) ok32 (by rfl) (fun w ho => parseCode rate (prtI rate h m s f) _ (prtI_len ..)) ?_
      intro v57 H57 h57
      rw [prs_round hok] at h57
      obtain ⟨rfl, rfl⟩ := h57
      refine RS.q rfl (QO.move) ?_
      refine RS.q rfl (QO.extract (by rfl) (by rfl)) ?_
      refine RS.q rfl (QO.extract (by rfl) (by rfl)) ?_
      refine RS.alloc rfl ty59 ?_
      intro g14
      first | refine RS.storeB ty59 (by rfl) (by rfl) (by rfl) (by rfl) (by rfl) (by repeat (first | exact Upd.head | apply Upd.tail)) (by rfl) ?_ | refine RS.storeP ty59 (by rfl) (by rfl) (by rfl) (by rfl) (by rfl) (by repeat (first | exact Upd.head | apply Upd.tail)) (by rfl) ?_
      refine RS.q rfl (QO.assign) ?_
      refine RS.nil ?_
      refine thenC_n ?_
      refine CS.seq ?_
      refine CS.region ?_
      refine RS.q rfl (QO.move) ?_
      refine RS.q rfl (QO.move) ?_
      first | (refine RS.q rfl (QO.loadB ty59 (by rfl) (by repeat (first | exact List.Mem.head _ | refine List.Mem.tail _ ?_)) (by rfl)) ?_) | (refine RS.q rfl (QO.loadA ty59 (by rfl) (by repeat (first | exact List.Mem.head _ | refine List.Mem.tail _ ?_)) (by rfl) (by rfl)) ?_) | (refine RS.q rfl (QO.loadOA ty59 (by rfl) (by assumption) (by rfl)) ?_)
      refine RS.call rfl (by rfl) ok33 (by rfl) (fun w ho => rframes rate h m s f _ hok) ?_
      rintro _ _ ⟨rfl, rfl⟩
      refine RS.qv rfl (QO.neq (by rfl) (by rfl)) (congrArg Value.bool (show ((if codE rate h m s f = 0 then frmN rate h m s f else 0) != frmN rate h m s f) = false from by rw [if_pos hok]; exact bne_self_eq_false _)) ?_
      refine RS.q rfl (QO.move) ?_
      refine RS.on (dj := 65) rfl (congrArg Value.bool rfl) ?_
      refine RS.q rfl (QO.move) ?_
      refine RS.on (dj := 65) rfl (congrArg Value.bool rfl) ?_
      refine RS.q rfl (QO.move) ?_
      refine RS.on (dj := 65) rfl (congrArg Value.bool rfl) ?_
      first | (refine RS.q rfl (QO.loadB ty59 (by rfl) (by repeat (first | exact List.Mem.head _ | refine List.Mem.tail _ ?_)) (by rfl)) ?_) | (refine RS.q rfl (QO.loadA ty59 (by rfl) (by repeat (first | exact List.Mem.head _ | refine List.Mem.tail _ ?_)) (by rfl) (by rfl)) ?_) | (refine RS.q rfl (QO.loadOA ty59 (by rfl) (by assumption) (by rfl)) ?_)
      refine RS.on (dj := 65) rfl (congrArg Value.bool rfl) ?_
      refine RS.call rfl (by rfl) ok34 (by rfl) (fun w ho => rprintI rate h m s f _ hok) ?_
      rintro _ _ ⟨rfl, rfl⟩
      refine RS.on (dj := 65) rfl (congrArg Value.bool rfl) ?_
      refine RS.qv rfl (QO.strne (by rfl) (by rfl)) (congrArg Value.bool (show (prtI rate h m s f != prt rate h.toNat m.toNat s.toNat f.toNat) = false from by unfold prtI; rw [if_pos hok]; exact bne_self_eq_false _)) ?_
      refine RS.q rfl (QO.pickF (by rfl) rfl (by rfl)) ?_
      refine RS.q rfl (QO.move) ?_
      refine RS.on (dj := 72) rfl (congrArg Value.bool rfl) ?_
      refine RS.q rfl (QO.move) ?_
      refine RS.on (dj := 72) rfl (congrArg Value.bool rfl) ?_
      refine RS.q rfl (QO.neq (by rfl) (by rfl)) ?_
      refine RS.q rfl (QO.pickF (by rfl) rfl (by rfl)) ?_
      refine RS.q rfl (QO.move) ?_
      refine RS.on (dj := 76) rfl (congrArg Value.bool rfl) ?_
      first | (refine RS.q rfl (QO.loadB ty59 (by rfl) (by repeat (first | exact List.Mem.head _ | refine List.Mem.tail _ ?_)) (by rfl)) ?_) | (refine RS.q rfl (QO.loadA ty59 (by rfl) (by repeat (first | exact List.Mem.head _ | refine List.Mem.tail _ ?_)) (by rfl) (by rfl)) ?_) | (refine RS.q rfl (QO.loadOA ty59 (by rfl) (by assumption) (by rfl)) ?_)
      refine RS.on (dj := 76) rfl (congrArg Value.bool rfl) ?_
      first | (refine RS.q rfl (QO.loadB ty59 (by rfl) (by repeat (first | exact List.Mem.head _ | refine List.Mem.tail _ ?_)) (by rfl)) ?_) | (refine RS.q rfl (QO.loadA ty59 (by rfl) (by repeat (first | exact List.Mem.head _ | refine List.Mem.tail _ ?_)) (by rfl) (by rfl)) ?_) | (refine RS.q rfl (QO.loadOA ty59 (by rfl) (by assumption) (by rfl)) ?_)
      refine RS.on (dj := 76) rfl (congrArg Value.bool rfl) ?_
      first | (refine RS.qv rfl (QO.sneq4 eqt59 (by rfl) (by rfl)) (congrArg Value.bool (bne_self_eq_false _)) ?_) | (refine RS.qv rfl (QO.sneq eqt59 (by decide) (by rfl) (by rfl) (by rfl) (by rfl)) (congrArg Value.bool (bne_self_eq_false _)) ?_)
      refine RS.q rfl (QO.pickF (by rfl) rfl (by rfl)) ?_
      refine RS.nil ?_
      refine thenC_n ?_
      refine CS.condF (by rfl) rfl ?_
      refine CS.skip ?_
      refine cutQ_n (by intro t ht; repeat (first | with_reducible exact rfl | exact frame_puts ht (frame_mix ht) _ rfl | (refine frame_put rfl ht ?_) | (refine frame_puts ht ?_ _ rfl) | exact frame_mix ht | (refine frame_mix2 rfl ht ?_) | exact rfl)) ?_
      exact ⟨(), trivial, (by repeat (first | exact kn_nil | refine kn_cons (by rfl) ?_)), (by repeat (first | exact List.Sublist.refl _ | exact List.nil_sublist _ | refine List.Sublist.cons_cons _ ?_ | refine List.Sublist.cons _ ?_ | exact Sbp.refl | exact Sbp.nil | refine Sbp.cons (by repeat (first | exact Rem.head | apply Rem.tail)) ?_ | exact Sbp.app | refine Sbp.skip ?_))⟩
  · intro z gj hz
    refine CS.seq ?_
    refine CS.region ?_
    refine RS.q rfl (QO.move) ?_
    refine RS.q rfl (QO.move) ?_
    refine RS.call rfl (by rfl) ok32 (by rfl) (fun w ho => parseCode rate l _ hl) ?_
    rintro _ _ ⟨rfl, rfl⟩
    refine RS.q rfl (QO.move) ?_
    refine RS.q rfl (QO.extract (by rfl) (by rfl)) ?_
    refine RS.q rfl (QO.extract (by rfl) (by rfl)) ?_
    refine RS.alloc rfl ty59 ?_
    intro g16
    first | refine RS.storeB ty59 (by rfl) (by rfl) (by rfl) (by rfl) (by rfl) (by repeat (first | exact Upd.head | apply Upd.tail)) (by rfl) ?_ | refine RS.storeP ty59 (by rfl) (by rfl) (by rfl) (by rfl) (by rfl) (by repeat (first | exact Upd.head | apply Upd.tail)) (by rfl) ?_
    refine RS.q rfl (QO.assign) ?_
    refine RS.nil ?_
    refine thenC_n ?_
    refine CS.seq ?_
    refine CS.region ?_
    refine RS.q rfl (QO.move) ?_
    refine RS.q rfl (QO.move) ?_
    refine RS.call rfl (by rfl) ok35 (by rfl) (fun w ho => rparseCode rate l _ hl) ?_
    rintro _ _ ⟨rfl, rfl⟩
    refine RS.q rfl (QO.move) ?_
    refine RS.q rfl (QO.extract (by rfl) (by rfl)) ?_
    refine RS.q rfl (QO.extract (by rfl) (by rfl)) ?_
    refine RS.alloc rfl ty59 ?_
    intro g17
    first | refine RS.storeB ty59 (by rfl) (by rfl) (by rfl) (by rfl) (by rfl) (by repeat (first | exact Upd.head | apply Upd.tail)) (by rfl) ?_ | refine RS.storeP ty59 (by rfl) (by rfl) (by rfl) (by rfl) (by rfl) (by repeat (first | exact Upd.head | apply Upd.tail)) (by rfl) ?_
    refine RS.q rfl (QO.assign) ?_
    refine RS.nil ?_
    refine thenC_n ?_
    refine CS.cut (X := Unit) [8, 93, 94, 95, 96, 97, 98, 99, 100] (fun z => []) (fun z => []) (fun z => True) ?_ ?_
    · refine CS.seq ?_
      refine CS.region ?_
      first | (refine RS.q rfl (QO.loadB ty59 (by rfl) (by repeat (first | exact List.Mem.head _ | refine List.Mem.tail _ ?_)) (by rfl)) ?_) | (refine RS.q rfl (QO.loadA ty59 (by rfl) (by repeat (first | exact List.Mem.head _ | refine List.Mem.tail _ ?_)) (by rfl) (by rfl)) ?_) | (refine RS.q rfl (QO.loadOA ty59 (by rfl) (by assumption) (by rfl)) ?_)
      first | (refine RS.q rfl (QO.loadB ty59 (by rfl) (by repeat (first | exact List.Mem.head _ | refine List.Mem.tail _ ?_)) (by rfl)) ?_) | (refine RS.q rfl (QO.loadA ty59 (by rfl) (by repeat (first | exact List.Mem.head _ | refine List.Mem.tail _ ?_)) (by rfl) (by rfl)) ?_) | (refine RS.q rfl (QO.loadOA ty59 (by rfl) (by assumption) (by rfl)) ?_)
      first | (refine RS.qv rfl (QO.sneq4 eqt59 (by rfl) (by rfl)) (congrArg Value.bool (bne_self_eq_false _)) ?_) | (refine RS.qv rfl (QO.sneq eqt59 (by decide) (by rfl) (by rfl) (by rfl) (by rfl)) (congrArg Value.bool (bne_self_eq_false _)) ?_)
      refine RS.q rfl (QO.move) ?_
      refine RS.on (dj := 96) rfl (congrArg Value.bool rfl) ?_
      refine RS.q rfl (QO.move) ?_
      refine RS.on (dj := 96) rfl (congrArg Value.bool rfl) ?_
      refine RS.q rfl (QO.move) ?_
      refine RS.on (dj := 96) rfl (congrArg Value.bool rfl) ?_
      refine RS.qv rfl (QO.neq (by rfl) (by rfl)) (congrArg Value.bool (bne_self_eq_false _)) ?_
      refine RS.q rfl (QO.pickF (by rfl) rfl (by rfl)) ?_
      refine RS.nil ?_
      refine thenC_n ?_
      refine CS.condF (by rfl) rfl ?_
      refine CS.skip ?_
      refine cutQ_n (by intro t ht; repeat (first | with_reducible exact rfl | exact frame_puts ht (frame_mix ht) _ rfl | (refine frame_put rfl ht ?_) | (refine frame_puts ht ?_ _ rfl) | exact frame_mix ht | (refine frame_mix2 rfl ht ?_) | exact rfl)) ?_
      exact ⟨(), trivial, (by repeat (first | exact kn_nil | refine kn_cons (by rfl) ?_)), (by repeat (first | exact List.Sublist.refl _ | exact List.nil_sublist _ | refine List.Sublist.cons_cons _ ?_ | refine List.Sublist.cons _ ?_ | exact Sbp.refl | exact Sbp.nil | refine Sbp.cons (by repeat (first | exact Rem.head | apply Rem.tail)) ?_ | exact Sbp.app | refine Sbp.skip ?_))⟩
    · intro z gj hz
      refine CS.seq ?_
      by_cases hsp18 : sec rate = 0
      · refine CS.region ?_
        refine RS.q rfl (QO.move) ?_
        refine RS.q rfl (QO.move) ?_
        refine RS.call rfl (by rfl) ok36 (by rfl) (fun w ho => codeOf_e rate n _ hsp18) ?_
        rintro _ _ ⟨rfl, rfl⟩
        refine RS.q rfl (QO.move) ?_
        refine RS.q rfl (QO.extract (by rfl) (by rfl)) ?_
        refine RS.q rfl (QO.extract (by rfl) (by rfl)) ?_
        refine RS.alloc rfl ty59 ?_
        intro g18
        first | refine RS.storeB ty59 (by rfl) (by rfl) (by rfl) (by rfl) (by rfl) (by repeat (first | exact Upd.head | apply Upd.tail)) (by rfl) ?_ | refine RS.storeP ty59 (by rfl) (by rfl) (by rfl) (by rfl) (by rfl) (by repeat (first | exact Upd.head | apply Upd.tail)) (by rfl) ?_
        refine RS.q rfl (QO.assign) ?_
        refine RS.nil ?_
        refine thenC_n ?_
        refine CS.seq ?_
        refine CS.seq ?_
        refine CS.region ?_
        refine RS.q rfl (QO.move) ?_
        refine RS.q rfl (QO.build ty59 pl59 (by rfl)) ?_
        refine RS.call rfl (by rfl) ok29 (by rfl) (fun w ho => codeError _ _ _ _ _ _) ?_
        rintro _ _ ⟨rfl, rfl⟩
        refine RS.qv rfl (QO.neq (by rfl) (by rfl)) (congrArg Value.bool (show (codE rate 0 0 0 0 != 0) = true from by rw [codE_1 hsp18]; rfl)) ?_
        refine RS.nil ?_
        refine thenC_n ?_
        refine CS.condT (by rfl) rfl ?_
        refine CS.seq ?_
        refine CS.region ?_
        refine RS.q rfl (QO.move) ?_
        refine RS.q rfl (QO.eql (by rfl) (by rfl)) ?_
        refine RS.q rfl (QO.move) ?_
        refine RS.on (dj := 113) rfl (congrArg Value.bool rfl) ?_
        first | (refine RS.q rfl (QO.loadB ty59 (by rfl) (by repeat (first | exact List.Mem.head _ | refine List.Mem.tail _ ?_)) (by rfl)) ?_) | (refine RS.q rfl (QO.loadA ty59 (by rfl) (by repeat (first | exact List.Mem.head _ | refine List.Mem.tail _ ?_)) (by rfl) (by rfl)) ?_) | (refine RS.q rfl (QO.loadOA ty59 (by rfl) (by assumption) (by rfl)) ?_)
        refine RS.on (dj := 113) rfl (congrArg Value.bool rfl) ?_
        refine RS.q rfl (QO.build ty59 pl59 (by rfl)) ?_
        refine RS.on (dj := 113) rfl (congrArg Value.bool rfl) ?_
        first | (refine RS.qv rfl (QO.seql4 eqt59 (by rfl) (by rfl)) (congrArg Value.bool (beq_self_eq_true _)) ?_) | (refine RS.qv rfl (QO.seql eqt59 (by decide) (by rfl) (by rfl) (by rfl) (by rfl)) (congrArg Value.bool (beq_self_eq_true _)) ?_)
        refine RS.q rfl (QO.pickT (by rfl) rfl (by rfl)) ?_
        refine RS.q rfl (QO.assign) ?_
        refine RS.nil ?_
        refine thenC_n ?_
        refine CS.ret ?_
        refine thenC_r ?_
        refine retQ.mk (H' := []) (.inr rfl) (RVs.tmp (by rfl) RVs.nil) (List.nil_sublist _) ?_
        exact ⟨rfl, rfl⟩
      · refine CS.region ?_
        refine RS.q rfl (QO.move) ?_
        refine RS.q rfl (QO.move) ?_
        refine RS.call rfl (by rfl) ok36 (by rfl) (fun w ho => codeOf rate n _ hsp18) ?_
        rintro _ _ ⟨rfl, rfl⟩
        refine RS.q rfl (QO.move) ?_
        refine RS.q rfl (QO.extract (by rfl) (by rfl)) ?_
        refine RS.q rfl (QO.extract (by rfl) (by rfl)) ?_
        refine RS.alloc rfl ty59 ?_
        intro g18
        first | refine RS.storeB ty59 (by rfl) (by rfl) (by rfl) (by rfl) (by rfl) (by repeat (first | exact Upd.head | apply Upd.tail)) (by rfl) ?_ | refine RS.storeP ty59 (by rfl) (by rfl) (by rfl) (by rfl) (by rfl) (by repeat (first | exact Upd.head | apply Upd.tail)) (by rfl) ?_
        refine RS.q rfl (QO.assign) ?_
        refine RS.nil ?_
        refine thenC_n ?_
        refine CS.seq ?_
        refine CS.seq ?_
        refine CS.region ?_
        refine RS.q rfl (QO.move) ?_
        refine RS.q rfl (QO.build ty59 pl59 (by rfl)) ?_
        refine RS.call rfl (by rfl) ok29 (by rfl) (fun w ho => codeError _ _ _ _ _ _) ?_
        rintro _ _ ⟨rfl, rfl⟩
        refine RS.qv rfl (QO.neq (by rfl) (by rfl)) (congrArg Value.bool (show (codE rate 0 0 0 0 != 0) = false from by rw [codE_z hsp18]; rfl)) ?_
        refine RS.nil ?_
        refine thenC_n ?_
        refine CS.condF (by rfl) rfl ?_
        refine CS.skip ?_
        refine thenC_n ?_
        refine CS.seq ?_
        refine CS.seq ?_
        refine CS.draw 15 rfl (by kernel_rfl) (by kernel_rfl) ?_
        have hdb := day_bd hsp18
        have hq0 := Int.emod_nonneg n (show dayN rate ≠ 0 by omega)
        have hq1 := Int.emod_lt_of_pos n (show 0 < dayN rate by omega)
        have hcd := code_of hsp18 hq0 hq1
        refine RT.take (i := 0) rfl (by kernel_rfl) rfl (QO.move) ?_
        refine RT.take (i := 1) rfl (by kernel_rfl) rfl (QO.neq (by rfl) (by rfl)) ?_
        refine RT.take (i := 2) rfl (by kernel_rfl) rfl (QO.move) ?_
        first | (refine RT.takeOn (i := 3) (dj := 120) rfl rfl (congrArg Value.bool rfl) (by kernel_rfl) rfl (QO.loadB ty59 (by rfl) (by repeat (first | exact List.Mem.head _ | refine List.Mem.tail _ ?_)) (by rfl)) ?_) | (refine RT.takeOn (i := 3) (dj := 120) rfl rfl (congrArg Value.bool rfl) (by kernel_rfl) rfl (QO.loadA ty59 (by rfl) (by repeat (first | exact List.Mem.head _ | refine List.Mem.tail _ ?_)) (by rfl) (by rfl)) ?_) | (refine RT.takeOn (i := 3) (dj := 120) rfl rfl (congrArg Value.bool rfl) (by kernel_rfl) rfl (QO.loadOA ty59 (by rfl) (by assumption) (by rfl)) ?_)
        refine RT.takeOn (i := 4) (dj := 120) rfl rfl (congrArg Value.bool rfl) (by kernel_rfl) rfl (QO.move) ?_
        refine RT.takeOn (i := 5) (dj := 120) rfl rfl (congrArg Value.bool rfl) (by kernel_rfl) rfl (QO.move) ?_
        refine RT.one (i := 6) (by kernel_rfl) rfl rfl ?_
        refine RS.on (dj := 120) rfl (congrArg Value.bool rfl) ?_
        refine RS.call rfl (by rfl) ok37 (by rfl) (fun w ho => rcodeOf rate n _ hsp18 hn) ?_
        rintro _ _ ⟨rfl, rfl⟩
        refine RS.nil ⟨(by repeat (first | exact List.Sublist.refl _ | exact List.nil_sublist _ | refine List.Sublist.cons_cons _ ?_ | refine List.Sublist.cons _ ?_ | exact Sbp.refl | exact Sbp.nil | refine Sbp.cons (by repeat (first | exact Rem.head | apply Rem.tail)) ?_ | exact Sbp.app | refine Sbp.skip ?_)), ?_⟩
        first | (refine RT.takeOnv (i := 7) (dj := 120) rfl rfl (congrArg Value.bool rfl) (by kernel_rfl) rfl (QO.sneq4 eqt59 (by rfl) (by rfl)) (congrArg Value.bool (bne_self_eq_false _)) ?_) | (refine RT.takeOnv (i := 7) (dj := 120) rfl rfl (congrArg Value.bool rfl) (by kernel_rfl) rfl (QO.sneq eqt59 (by decide) (by rfl) (by rfl) (by rfl) (by rfl)) (congrArg Value.bool (bne_self_eq_false _)) ?_)
        refine RT.take (i := 8) rfl (by kernel_rfl) rfl (QO.pickF (by rfl) rfl (by rfl)) ?_
        refine RT.take (i := 9) rfl (by kernel_rfl) rfl (QO.move) ?_
        refine RT.takeOn (i := 10) (dj := 127) rfl rfl (congrArg Value.bool rfl) (by kernel_rfl) rfl (QO.move) ?_
        first | (refine RT.takeOn (i := 11) (dj := 127) rfl rfl (congrArg Value.bool rfl) (by kernel_rfl) rfl (QO.loadB ty59 (by rfl) (by repeat (first | exact List.Mem.head _ | refine List.Mem.tail _ ?_)) (by rfl)) ?_) | (refine RT.takeOn (i := 11) (dj := 127) rfl rfl (congrArg Value.bool rfl) (by kernel_rfl) rfl (QO.loadA ty59 (by rfl) (by repeat (first | exact List.Mem.head _ | refine List.Mem.tail _ ?_)) (by rfl) (by rfl)) ?_) | (refine RT.takeOn (i := 11) (dj := 127) rfl rfl (congrArg Value.bool rfl) (by kernel_rfl) rfl (QO.loadOA ty59 (by rfl) (by assumption) (by rfl)) ?_)
        refine RT.one (i := 12) (by kernel_rfl) rfl rfl ?_
        refine RS.on (dj := 127) rfl (congrArg Value.bool rfl) ?_
        refine RS.call rfl (by rfl) ok29 (by rfl) (fun w ho => codeError _ _ _ _ _ _) ?_
        rintro _ _ ⟨rfl, rfl⟩
        refine RS.nil ⟨(by repeat (first | exact List.Sublist.refl _ | exact List.nil_sublist _ | refine List.Sublist.cons_cons _ ?_ | refine List.Sublist.cons _ ?_ | exact Sbp.refl | exact Sbp.nil | refine Sbp.cons (by repeat (first | exact Rem.head | apply Rem.tail)) ?_ | exact Sbp.app | refine Sbp.skip ?_)), ?_⟩
        refine RT.takeOnv (i := 13) (dj := 127) rfl rfl (congrArg Value.bool rfl) (by kernel_rfl) rfl (QO.neq (by rfl) (by rfl)) (congrArg Value.bool (show (codE rate (cdH rate (n % dayN rate)) (cdM rate (n % dayN rate)) (cdS rate (n % dayN rate)) (cdF rate (n % dayN rate)) != 0) = false from by rw [hcd.1]; rfl)) ?_
        refine RT.take (i := 14) rfl (by kernel_rfl) rfl (QO.pickF (by rfl) rfl (by rfl)) ?_
        refine RT.done (by kernel_rfl) ?_
        refine thenC_n ?_
        refine CS.condF (by rfl) rfl ?_
        refine CS.skip ?_
        refine thenC_n ?_
        refine CS.seq ?_
        refine CS.region ?_
        refine RS.q rfl (QO.move) ?_
        first | (refine RS.q rfl (QO.loadB ty59 (by rfl) (by repeat (first | exact List.Mem.head _ | refine List.Mem.tail _ ?_)) (by rfl)) ?_) | (refine RS.q rfl (QO.loadA ty59 (by rfl) (by repeat (first | exact List.Mem.head _ | refine List.Mem.tail _ ?_)) (by rfl) (by rfl)) ?_) | (refine RS.q rfl (QO.loadOA ty59 (by rfl) (by assumption) (by rfl)) ?_)
        refine RS.call rfl (by rfl) ok30 (by rfl) (fun w ho => frames_ rate (cdH rate (n % dayN rate)) (cdM rate (n % dayN rate)) (cdS rate (n % dayN rate)) (cdF rate (n % dayN rate)) _) ?_
        intro v136 H136 h136
        rw [frm_round hsp18 hq0 hq1] at h136
        obtain ⟨rfl, rfl⟩ := h136
        refine RS.q rfl (QO.move) ?_
        refine RS.q rfl (QO.extract (by rfl) (by rfl)) ?_
        refine RS.q rfl (QO.extract (by rfl) (by rfl)) ?_
        refine RS.q rfl (QO.assign) ?_
        refine RS.q rfl (QO.assign) ?_
        refine RS.nil ?_
        refine thenC_n ?_
        refine CS.seq ?_
        refine CS.region ?_
        refine RS.q rfl (QO.move) ?_
        refine RS.q rfl (QO.move) ?_
        refine RS.call rfl (by rfl) ok36 (by rfl) (fun w ho => codeOf rate (n % dayN rate) _ hsp18) ?_
        intro v142 H142 h142
        rw [Int.emod_emod] at h142
        obtain ⟨rfl, rfl⟩ := h142
        refine RS.q rfl (QO.move) ?_
        refine RS.q rfl (QO.extract (by rfl) (by rfl)) ?_
        refine RS.q rfl (QO.extract (by rfl) (by rfl)) ?_
        refine RS.alloc rfl ty59 ?_
        intro g20
        first | refine RS.storeB ty59 (by rfl) (by rfl) (by rfl) (by rfl) (by rfl) (by repeat (first | exact Upd.head | apply Upd.tail)) (by rfl) ?_ | refine RS.storeP ty59 (by rfl) (by rfl) (by rfl) (by rfl) (by rfl) (by repeat (first | exact Upd.head | apply Upd.tail)) (by rfl) ?_
        refine RS.q rfl (QO.assign) ?_
        refine RS.nil ?_
        refine thenC_n ?_
        refine CS.seq ?_
        refine CS.region ?_
        refine RS.q rfl (QO.move) ?_
        refine RS.q rfl (QO.eql (by rfl) (by rfl)) ?_
        refine RS.q rfl (QO.move) ?_
        refine RS.on (dj := 147) rfl (congrArg Value.bool rfl) ?_
        refine RS.q rfl (QO.move) ?_
        refine RS.on (dj := 147) rfl (congrArg Value.bool rfl) ?_
        refine RS.q rfl (QO.eql (by rfl) (by rfl)) ?_
        refine RS.q rfl (QO.pickT (by rfl) rfl (by rfl)) ?_
        refine RS.q rfl (QO.move) ?_
        refine RS.on (dj := 151) rfl (congrArg Value.bool rfl) ?_
        first | (refine RS.q rfl (QO.loadB ty59 (by rfl) (by repeat (first | exact List.Mem.head _ | refine List.Mem.tail _ ?_)) (by rfl)) ?_) | (refine RS.q rfl (QO.loadA ty59 (by rfl) (by repeat (first | exact List.Mem.head _ | refine List.Mem.tail _ ?_)) (by rfl) (by rfl)) ?_) | (refine RS.q rfl (QO.loadOA ty59 (by rfl) (by assumption) (by rfl)) ?_)
        refine RS.on (dj := 151) rfl (congrArg Value.bool rfl) ?_
        first | (refine RS.q rfl (QO.loadB ty59 (by rfl) (by repeat (first | exact List.Mem.head _ | refine List.Mem.tail _ ?_)) (by rfl)) ?_) | (refine RS.q rfl (QO.loadA ty59 (by rfl) (by repeat (first | exact List.Mem.head _ | refine List.Mem.tail _ ?_)) (by rfl) (by rfl)) ?_) | (refine RS.q rfl (QO.loadOA ty59 (by rfl) (by assumption) (by rfl)) ?_)
        refine RS.on (dj := 151) rfl (congrArg Value.bool rfl) ?_
        first | (refine RS.qv rfl (QO.seql4 eqt59 (by rfl) (by rfl)) (congrArg Value.bool (beq_self_eq_true _)) ?_) | (refine RS.qv rfl (QO.seql eqt59 (by decide) (by rfl) (by rfl) (by rfl) (by rfl)) (congrArg Value.bool (beq_self_eq_true _)) ?_)
        refine RS.q rfl (QO.pickT (by rfl) rfl (by rfl)) ?_
        refine RS.q rfl (QO.move) ?_
        refine RS.on (dj := 156) rfl (congrArg Value.bool rfl) ?_
        refine RS.q rfl (QO.move) ?_
        refine RS.on (dj := 156) rfl (congrArg Value.bool rfl) ?_
        refine RS.q rfl (QO.lss (by rfl) (by rfl)) ?_
        refine RS.on (dj := 156) rfl (congrArg Value.bool rfl) ?_
        refine RS.q rfl (QO.move) ?_
        refine RS.split (dj := 159) (by rfl) (fun hb1 => ?_) (fun hb1 => ?_)
        · have hb1p := of_decide_eq_true hb1
          refine RS.off (dj := 159) rfl (.inl (congrArg Value.bool hb1)) (fun _ => rfl) rfl ?_
          refine RS.off (dj := 159) rfl (.inl (congrArg Value.bool hb1)) (fun _ => rfl) rfl ?_
          refine RS.on (dj := 156) rfl (congrArg Value.bool rfl) ?_
          refine RS.q rfl (QO.pickT (by rfl) hb1 (by rfl)) ?_
          refine RS.on (dj := 156) rfl (congrArg Value.bool rfl) ?_
          refine RS.q rfl (QO.move) ?_
          refine RS.off (dj := 163) rfl (.inl (congrArg Value.bool rfl)) (fun _ => rfl) rfl ?_
          refine RS.off (dj := 163) rfl (.inl (congrArg Value.bool rfl)) (fun _ => rfl) rfl ?_
          refine RS.off (dj := 163) rfl (.inl (congrArg Value.bool rfl)) (fun _ => rfl) rfl ?_
          refine RS.on (dj := 156) rfl (congrArg Value.bool rfl) ?_
          refine RS.q rfl (QO.pickT (by rfl) rfl (by rfl)) ?_
          refine RS.q rfl (QO.pickT (by rfl) rfl (by rfl)) ?_
          refine RS.q rfl (QO.assign) ?_
          refine RS.nil ?_
          refine thenC_n ?_
          refine CS.ret ?_
          refine retQ.mk (H' := []) (.inr rfl) (RVs.tmp (by rfl) RVs.nil) (List.nil_sublist _) ?_
          exact ⟨rfl, rfl⟩
        · have hb1p := of_decide_eq_false hb1
          refine RS.on (dj := 159) rfl (congrArg Value.bool hb1) ?_
          refine RS.q rfl (QO.move) ?_
          refine RS.on (dj := 159) rfl (congrArg Value.bool hb1) ?_
          refine RS.q rfl (QO.geq (by rfl) (by rfl)) ?_
          refine RS.on (dj := 156) rfl (congrArg Value.bool rfl) ?_
          refine RS.q rfl (QO.pickF (by rfl) hb1 (by rfl)) ?_
          refine RS.on (dj := 156) rfl (congrArg Value.bool rfl) ?_
          refine RS.q rfl (QO.move) ?_
          refine RS.split (dj := 163) (by rfl) (fun hb2 => ?_) (fun hb2 => ?_)
          · have hb2p := of_decide_eq_true hb2
            refine RS.off (dj := 163) rfl (.inl (congrArg Value.bool hb2)) (fun _ => rfl) rfl ?_
            refine RS.off (dj := 163) rfl (.inl (congrArg Value.bool hb2)) (fun _ => rfl) rfl ?_
            refine RS.off (dj := 163) rfl (.inl (congrArg Value.bool hb2)) (fun _ => rfl) rfl ?_
            refine RS.on (dj := 156) rfl (congrArg Value.bool rfl) ?_
            refine RS.q rfl (QO.pickT (by rfl) hb2 (by rfl)) ?_
            refine RS.q rfl (QO.pickT (by rfl) rfl (by rfl)) ?_
            refine RS.q rfl (QO.assign) ?_
            refine RS.nil ?_
            refine thenC_n ?_
            refine CS.ret ?_
            refine retQ.mk (H' := []) (.inr rfl) (RVs.tmp (by rfl) RVs.nil) (List.nil_sublist _) ?_
            exact ⟨rfl, rfl⟩
          · have hb2p := of_decide_eq_false hb2
            refine RS.on (dj := 163) rfl (congrArg Value.bool hb2) ?_
            refine RS.q rfl (QO.move) ?_
            refine RS.on (dj := 163) rfl (congrArg Value.bool hb2) ?_
            refine RS.q rfl (QO.move) ?_
            refine RS.on (dj := 163) rfl (congrArg Value.bool hb2) ?_
            refine RS.qv rfl (QO.eql (by rfl) (by rfl)) (congrArg Value.bool (show ((n % dayN rate) == n) = true from by rw [Int.emod_eq_of_lt (by omega) (by omega)]; exact beq_self_eq_true _)) ?_
            refine RS.on (dj := 156) rfl (congrArg Value.bool rfl) ?_
            refine RS.q rfl (QO.pickF (by rfl) hb2 (by rfl)) ?_
            refine RS.q rfl (QO.pickT (by rfl) rfl (by rfl)) ?_
            refine RS.q rfl (QO.assign) ?_
            refine RS.nil ?_
            refine thenC_n ?_
            refine CS.ret ?_
            refine retQ.mk (H' := []) (.inr rfl) (RVs.tmp (by rfl) RVs.nil) (List.nil_sublist _) ?_
            exact ⟨rfl, rfl⟩

end Go.Proofs.YtapcgokcfmklbaaDoor
