/-
  Contracts: edit lists checked. Conditions: as each theorem says.
-/
import Derived.Test.YtapcgokcfmklbaaDoorY2
namespace Go.Proofs.YtapcgokcfmklbaaDoor
open Go Go.Proofs Go.RowKit

theorem ty9 : tyChk Tryd.prog 9 = some ([.string ByteArray.empty], false, 16) := by kernel_rfl
theorem ty50 : tyChk Tryd.prog 50 = some ([.slice none 0 0], false, 24) := by kernel_rfl
theorem ty134 : tyChk Tryd.prog 134 = some ([.string ByteArray.empty, .int .i64 0, .int .i64 0, .int .i64 0, .int .i64 0, .int .i64 0], true, 56) := by kernel_rfl
theorem fo52_0 : fldOff Tryd.prog 52 0 = some (0, 9) := by kernel_rfl
theorem fo52_1 : fldOff Tryd.prog 52 1 = some (1, 3) := by kernel_rfl
theorem fo52_2 : fldOff Tryd.prog 52 2 = some (2, 50) := by kernel_rfl
theorem fo134_0 : fldOff Tryd.prog 134 0 = some (0, 9) := by kernel_rfl
theorem fo134_1 : fldOff Tryd.prog 134 1 = some (1, 3) := by kernel_rfl
theorem fo134_2 : fldOff Tryd.prog 134 2 = some (2, 3) := by kernel_rfl
theorem fo134_3 : fldOff Tryd.prog 134 3 = some (3, 3) := by kernel_rfl
theorem fo134_4 : fldOff Tryd.prog 134 4 = some (4, 3) := by kernel_rfl
theorem fo134_5 : fldOff Tryd.prog 134 5 = some (5, 3) := by kernel_rfl
theorem ok97 : callOK Tryd.prog 97 = true := by kernel_rfl
theorem ok101 : callOK Tryd.prog 101 = true := by kernel_rfl
theorem ok102 : callOK Tryd.prog 102 = true := by kernel_rfl
theorem ok109 : callOK Tryd.prog 109 = true := by kernel_rfl

set_option maxRecDepth 100000 in
theorem long_ (e : Ev) (W : World) (h1 : 0 ≤ e.inn ∧ e.inn < e.out ∧ e.out ≤ 16777216)  : Fn_ Tryd.prog 97 #[.agg #[sv e.reel, iv e.kind, iv e.len, iv e.inn, iv e.out, iv e.at_]] W (fun v H => v = iv (e.out - e.inn) ∧ H = []) := by
  refine Fn_.intro Tryd.func97 rfl rfl (by rfl) ?_
  refine CS.seq ?_
  refine CS.region ?_
  refine RS.box rfl (by rfl) (by rfl) ?_
  intro g1
  refine RS.q rfl (QO.assign) ?_
  refine RS.nil ?_
  refine thenC_n ?_
  refine CS.seq ?_
  refine CS.region ?_
  refine RS.q rfl (QO.fieldAddr fo134_4 (by rfl)) ?_
  refine RS.q rfl (QO.load ty3 (by rfl) (by repeat (first | exact List.Mem.head _ | refine List.Mem.tail _ ?_)) (by rfl)) ?_
  refine RS.q rfl (QO.fieldAddr fo134_3 (by rfl)) ?_
  refine RS.q rfl (QO.load ty3 (by rfl) (by repeat (first | exact List.Mem.head _ | refine List.Mem.tail _ ?_)) (by rfl)) ?_
  refine RS.q rfl (QO.sub (by rfl) (by rfl) (by omega) (by omega)) ?_
  refine RS.q rfl (QO.assign) ?_
  refine RS.nil ?_
  refine thenC_n ?_
  refine CS.ret ?_
  refine retQ.mk (H' := []) (.inr rfl) (RVs.tmp (by rfl) RVs.nil) (List.nil_sublist _) ?_
  exact ⟨rfl, rfl⟩

set_option maxRecDepth 100000 in
theorem rend (e : Ev) (W : World) (h1 : 0 ≤ e.inn ∧ e.inn < e.out ∧ e.out ≤ 16777216) (h2 : 0 ≤ e.at_ ∧ e.at_ ≤ 16777216) : Fn_ Tryd.prog 102 #[.agg #[sv e.reel, iv e.kind, iv e.len, iv e.inn, iv e.out, iv e.at_]] W (fun v H => v = iv (evEnd e) ∧ H = []) := by
  refine Fn_.intro Tryd.func102 rfl rfl (by rfl) ?_
  refine CS.seq ?_
  refine CS.region ?_
  refine RS.box rfl (by rfl) (by rfl) ?_
  intro g1
  refine RS.q rfl (QO.assign) ?_
  refine RS.nil ?_
  refine thenC_n ?_
  refine CS.seq ?_
  refine CS.region ?_
  refine RS.q rfl (QO.fieldAddr fo134_5 (by rfl)) ?_
  refine RS.q rfl (QO.load ty3 (by rfl) (by repeat (first | exact List.Mem.head _ | refine List.Mem.tail _ ?_)) (by rfl)) ?_
  refine RS.q rfl (QO.fieldAddr fo134_4 (by rfl)) ?_
  refine RS.q rfl (QO.load ty3 (by rfl) (by repeat (first | exact List.Mem.head _ | refine List.Mem.tail _ ?_)) (by rfl)) ?_
  refine RS.q rfl (QO.add (by rfl) (by rfl) (by omega) (by omega)) ?_
  refine RS.q rfl (QO.fieldAddr fo134_3 (by rfl)) ?_
  refine RS.q rfl (QO.load ty3 (by rfl) (by repeat (first | exact List.Mem.head _ | refine List.Mem.tail _ ?_)) (by rfl)) ?_
  refine RS.q rfl (QO.sub (by rfl) (by rfl) (by omega) (by omega)) ?_
  refine RS.q rfl (QO.assign) ?_
  refine RS.nil ?_
  refine thenC_n ?_
  refine CS.ret ?_
  refine retQ.mk (H' := []) (.inr rfl) (RVs.tmp (by rfl) RVs.nil) (List.nil_sublist _) ?_
  exact ⟨congrArg iv (by unfold evEnd; omega), rfl⟩

set_option maxHeartbeats 8000000 in
set_option maxRecDepth 100000 in
theorem checkList (t : List UInt8) (rate : Int) (A : Option Addr) (n c : Nat) (l : List Ev) (W : World) (ht : t.length ≤ maxLen) (hl : l.length = n) (hES : ES W A l) (hr : ∀ e ∈ l, e.reel.length ≤ maxLen) (hm : n ≤ maxLen) : Fn_ Tryd.prog 47 #[.agg #[sv t, iv rate, .slice A n c]] W (fun v H => v = iv (edE t rate l) ∧ H = []) := by
  subst hl
  unfold maxLen at hm
  refine Fn_.intro Tryd.func47 rfl rfl (by rfl) ?_
  refine CS.seq ?_
  refine CS.region ?_
  refine RS.box rfl (by rfl) (by rfl) ?_
  intro g1
  refine RS.q rfl (QO.assign) ?_
  refine RS.nil ?_
  refine thenC_n ?_
  refine CS.seq ?_
  refine CS.block ?_
  refine CS.seq ?_
  refine CS.region ?_
  refine RS.q rfl (QO.fieldAddr fo52_0 (by rfl)) ?_
  refine RS.q rfl (QO.load ty9 (by rfl) (by repeat (first | exact List.Mem.head _ | refine List.Mem.tail _ ?_)) (by rfl)) ?_
  refine RS.call rfl (by rfl) ok109 (by rfl) (fun w ho => isName t _ ht) ?_
  rintro _ _ ⟨rfl, rfl⟩
  refine RS.q rfl (QO.not (by rfl)) ?_
  refine RS.q rfl (QO.assign) ?_
  refine RS.nil ?_
  refine thenC_n ?_
  refine CS.cond (by rfl) (fun hb0 => ?_) (fun hb0 => ?_)
  · have hb0p := Eq.mp (Bool.not_eq_true' _) hb0
    refine CS.seq ?_
    refine CS.region ?_
    refine RS.q rfl (QO.assign) ?_
    refine RS.nil ?_
    refine thenC_n ?_
    refine CS.ret ?_
    refine blockC_r ?_
    refine thenC_r ?_
    refine retQ.mk (H' := []) (.inr rfl) (RVs.tmp (by rfl) RVs.nil) (List.nil_sublist _) ?_
    exact ⟨congrArg iv (edE_6 (by assumption)).symm, rfl⟩
  have hb0p := Eq.mp (Bool.not_eq_false' _) hb0
  refine CS.seq ?_
  refine CS.region ?_
  refine RS.q rfl (QO.fieldAddr fo52_1 (by rfl)) ?_
  refine RS.q rfl (QO.load ty3 (by rfl) (by repeat (first | exact List.Mem.head _ | refine List.Mem.tail _ ?_)) (by rfl)) ?_
  refine RS.call rfl (by rfl) ok93 (by rfl) (fun w ho => isRate _ _) ?_
  rintro _ _ ⟨rfl, rfl⟩
  refine RS.q rfl (QO.not (by rfl)) ?_
  refine RS.q rfl (QO.assign) ?_
  refine RS.nil ?_
  refine thenC_n ?_
  refine CS.cond (by rfl) (fun hb1 => ?_) (fun hb1 => ?_)
  · have hb1p := Eq.mp (Bool.not_eq_true' _) hb1
    refine CS.seq ?_
    refine CS.region ?_
    refine RS.q rfl (QO.assign) ?_
    refine RS.nil ?_
    refine thenC_n ?_
    refine CS.ret ?_
    refine blockC_r ?_
    refine thenC_r ?_
    refine retQ.mk (H' := []) (.inr rfl) (RVs.tmp (by rfl) RVs.nil) (List.nil_sublist _) ?_
    exact ⟨congrArg iv (edE_1 (by assumption) (Decidable.not_not.1 (of_decide_eq_false (by assumption)))).symm, rfl⟩
  have hb1p := Eq.mp (Bool.not_eq_false' _) hb1
  refine CS.seq ?_
  refine CS.region ?_
  refine RS.q rfl (QO.fieldAddr fo52_2 (by rfl)) ?_
  refine RS.q rfl (QO.load ty50 (by rfl) (by repeat (first | exact List.Mem.head _ | refine List.Mem.tail _ ?_)) (by rfl)) ?_
  refine RS.q rfl (QO.lenS Tryd.underlying50 (by rfl)) ?_
  refine RS.q rfl (QO.gtr (by rfl) (by rfl)) ?_
  refine RS.q rfl (QO.assign) ?_
  refine RS.nil ?_
  refine thenC_n ?_
  refine CS.cond (by rfl) (fun hb2 => ?_) (fun hb2 => ?_)
  · have hb2p := of_decide_eq_true hb2
    refine CS.seq ?_
    refine CS.region ?_
    refine RS.q rfl (QO.assign) ?_
    refine RS.nil ?_
    refine thenC_n ?_
    refine CS.ret ?_
    refine blockC_r ?_
    refine thenC_r ?_
    refine retQ.mk (H' := []) (.inr rfl) (RVs.tmp (by rfl) RVs.nil) (List.nil_sublist _) ?_
    exact ⟨congrArg iv (edE_4 (by assumption) (of_decide_eq_true (by assumption)) (by omega)).symm, rfl⟩
  have hb2p := of_decide_eq_false hb2
  refine CS.skip ?_
  refine blockC_n ?_
  refine thenC_n ?_
  refine CS.seq ?_
  refine CS.region ?_
  refine RS.q rfl (QO.assign) ?_
  refine RS.q rfl (QO.assign) ?_
  refine RS.nil ?_
  refine thenC_n ?_
  refine CS.seq ?_
  refine CS.seq ?_
  refine CS.region ?_
  refine RS.q rfl (QO.fieldAddr fo52_2 (by rfl)) ?_
  refine RS.q rfl (QO.load ty50 (by rfl) (by repeat (first | exact List.Mem.head _ | refine List.Mem.tail _ ?_)) (by rfl)) ?_
  refine RS.q rfl (QO.lenS Tryd.underlying50 (by rfl)) ?_
  refine RS.q rfl (QO.move) ?_
  refine RS.nil ?_
  refine thenC_n ?_
  refine CS.block ?_
  have hn : nameB t = true := by assumption
  have hs : sec rate ≠ 0 := of_decide_eq_true (by assumption)
  have hlen : ¬ 500 < (l.length : Int) := by omega
  refine CS.loop (X := Nat) (2 :: 3 :: 4 :: 6 :: 25 :: 26 :: 27 :: 28 :: 29 :: 30 :: 31 :: 32 :: 33 :: 34 :: 35 :: 36 :: 37 :: 38 :: 39 :: 40 :: 41 :: 42 :: 43 :: 44 :: 45 :: 46 :: 47 :: 48 :: 49 :: 50 :: 51 :: 52 :: 53 :: 54 :: 55 :: 56 :: 57 :: 58 :: 59 :: 60 :: 61 :: 62 :: 63 :: 64 :: 65 :: 66 :: 67 :: 68 :: 69 :: 70 :: 71 :: 72 :: 73 :: 74 :: 75 :: 76 :: 77 :: 78 :: 79 :: 80 :: 81 :: 82 :: 83 :: 84 :: 85 :: 86 :: 87 :: 88 :: 89 :: 90 :: 91 :: 92 :: 93 :: 94 :: 95 :: 96 :: 97 :: 98 :: 99 :: 100 :: 101 :: 102 :: 103 :: 104 :: 105 :: 106 :: 107 :: 108 :: 109 :: 110 :: 111 :: 112 :: 113 :: 114 :: 115 :: 116 :: 117 :: 118 :: 119 :: 120 :: 121 :: []) (fun k => [(25, iv (k : Int)), (3, iv (endB l k)), (4, .bool (decide (0 < (k : Int))))]) (fun k => [⟨g1, 52, [sv t, iv rate, .slice A l.length c]⟩]) (fun k => k ≤ l.length ∧ firstE (evErr l) k = 0) (fun k => l.length - k) 0 ⟨Nat.zero_le _, rfl⟩ ?_ ?_ ?_
  · exact (by repeat (first | exact kn_nil | refine kn_cons (by rfl) ?_))
  · exact (by repeat (first | exact List.Sublist.refl _ | exact List.nil_sublist _ | refine List.Sublist.cons_cons _ ?_ | refine List.Sublist.cons _ ?_ | exact Sbp.refl | exact Sbp.nil | refine Sbp.cons (by repeat (first | exact Rem.head | apply Rem.tail)) ?_ | exact Sbp.app | refine Sbp.skip ?_))
  intro k gj9 hz
  obtain ⟨hk, hz⟩ := hz
  have heb := endB_bd hz
  have hek : 0 < k ∨ endB l k = 0 := by
    rcases Nat.eq_zero_or_pos k with h | h
    · exact .inr (if_pos h)
    · exact .inl h
  refine CS.seq ?_
  refine CS.region ?_
  refine RS.q rfl (QO.lss (by rfl) (by rfl)) ?_
  refine RS.nil ?_
  refine thenC_n ?_
  refine CS.seq ?_
  refine CS.cond (by rfl) (fun hb3 => ?_) (fun hb3 => ?_)
  · have hb3p := of_decide_eq_true hb3
    refine CS.skip ?_
    refine thenC_n ?_
    refine CS.seq ?_
    refine CS.block ?_
    refine CS.seq ?_
    refine CS.region ?_
    have hkl : k < l.length := by omega
    have hx1 := hES.at_ hkl
    obtain ⟨bA, oA, hA0, hcell⟩ := hx1
    subst hA0
    have hev : evErr l k = evE1 (l.getD k default) k (endB l k) := rfl
    have hen : endB l (k + 1) = evEnd (l.getD k default) := rfl
    have hrl : (l.getD k default).reel.length ≤ maxLen := hr _ (by rw [List.getD_eq_getElem?_getD, List.getElem?_eq_getElem hkl]; exact List.getElem_mem _)
    have hx2 : ∃ e, l.getD k default = e := ⟨_, rfl⟩
    obtain ⟨e, he⟩ := hx2
    rw [he] at hcell hev hen hrl
    refine RS.q rfl (QO.idx Tryd.underlying50 ty134 (by rfl) (by rfl) (by omega) (by omega)) ?_
    refine RS.q rfl (QO.loadOA ty134 (vs := evc e) (by rfl) hcell (by rfl)) ?_
    refine RS.alloc rfl ty134 ?_
    intro g6
    refine RS.storeB ty134 (by rfl) (by rfl) (by rfl) (by rfl) (by rfl) (by repeat (first | exact Upd.head | apply Upd.tail)) (by rfl) ?_
    refine RS.nil ?_
    refine thenC_n ?_
    refine CS.seq ?_
    refine CS.block ?_
    refine CS.seq ?_
    refine CS.region ?_
    refine RS.q rfl (QO.fieldAddr fo134_0 (by rfl)) ?_
    refine RS.q rfl (QO.load ty9 (by rfl) (by repeat (first | exact List.Mem.head _ | refine List.Mem.tail _ ?_)) (by rfl)) ?_
    refine RS.call rfl (by rfl) ok109 (by rfl) (fun w ho => isName e.reel _ hrl) ?_
    rintro _ _ ⟨rfl, rfl⟩
    refine RS.q rfl (QO.not (by rfl)) ?_
    refine RS.q rfl (QO.assign) ?_
    refine RS.nil ?_
    refine thenC_n ?_
    refine CS.cond (by rfl) (fun hb4 => ?_) (fun hb4 => ?_)
    · have hb4p := Eq.mp (Bool.not_eq_true' _) hb4
      refine CS.seq ?_
      refine CS.region ?_
      refine RS.q rfl (QO.assign) ?_
      refine RS.nil ?_
      refine thenC_n ?_
      refine CS.ret ?_
      refine blockC_r ?_
      refine thenC_r ?_
      refine blockC_r ?_
      refine thenC_r ?_
      refine loopQ_r ?_
      refine blockC_r ?_
      refine thenC_r ?_
      refine retQ.mk (H' := []) (.inr rfl) (RVs.tmp (by rfl) RVs.nil) (List.nil_sublist _) ?_
      exact ⟨congrArg iv (edE_at hn hs hlen hz (by omega) (hev.trans (evE1_6 (by assumption))) (by decide)).symm, rfl⟩
    have hb4p := Eq.mp (Bool.not_eq_false' _) hb4
    refine CS.seq ?_
    refine CS.region ?_
    refine RS.q rfl (QO.fieldAddr fo134_1 (by rfl)) ?_
    refine RS.q rfl (QO.load ty3 (by rfl) (by repeat (first | exact List.Mem.head _ | refine List.Mem.tail _ ?_)) (by rfl)) ?_
    refine RS.q rfl (QO.neq (by rfl) (by rfl)) ?_
    refine RS.q rfl (QO.move) ?_
    refine RS.split (dj := 38) (by rfl) (fun hb5 => ?_) (fun hb5 => ?_)
    · have hb5p := bne_iff_ne.1 hb5
      refine RS.on (dj := 38) rfl (congrArg Value.bool hb5) ?_
      refine RS.q rfl (QO.fieldAddr fo134_1 (by rfl)) ?_
      refine RS.on (dj := 38) rfl (congrArg Value.bool hb5) ?_
      refine RS.q rfl (QO.load ty3 (by rfl) (by repeat (first | exact List.Mem.head _ | refine List.Mem.tail _ ?_)) (by rfl)) ?_
      refine RS.on (dj := 38) rfl (congrArg Value.bool hb5) ?_
      refine RS.q rfl (QO.neq (by rfl) (by rfl)) ?_
      refine RS.q rfl (QO.pickT (by rfl) hb5 (by rfl)) ?_
      refine RS.q rfl (QO.assign) ?_
      refine RS.nil ?_
      refine thenC_n ?_
      refine CS.cond (by rfl) (fun hb6 => ?_) (fun hb6 => ?_)
      · have hb6p := bne_iff_ne.1 hb6
        refine CS.seq ?_
        refine CS.region ?_
        refine RS.q rfl (QO.assign) ?_
        refine RS.nil ?_
        refine thenC_n ?_
        refine CS.ret ?_
        refine blockC_r ?_
        refine thenC_r ?_
        refine blockC_r ?_
        refine thenC_r ?_
        refine loopQ_r ?_
        refine blockC_r ?_
        refine thenC_r ?_
        refine retQ.mk (H' := []) (.inr rfl) (RVs.tmp (by rfl) RVs.nil) (List.nil_sublist _) ?_
        exact ⟨congrArg iv (edE_at hn hs hlen hz (by omega) (hev.trans (evE1_1 (by assumption) (by refine ⟨?_, ?_⟩ <;> omega))) (by decide)).symm, rfl⟩
      have hb6p := of_bne_false hb6
      refine CS.seq ?_
      refine CS.region ?_
      refine RS.q rfl (QO.fieldAddr fo134_3 (by rfl)) ?_
      refine RS.q rfl (QO.load ty3 (by rfl) (by repeat (first | exact List.Mem.head _ | refine List.Mem.tail _ ?_)) (by rfl)) ?_
      refine RS.q rfl (QO.lss (by rfl) (by rfl)) ?_
      refine RS.q rfl (QO.move) ?_
      refine RS.split (dj := 47) (by rfl) (fun hb7 => ?_) (fun hb7 => ?_)
      · have hb7p := of_decide_eq_true hb7
        refine RS.off (dj := 47) rfl (.inl (congrArg Value.bool hb7)) (fun _ => rfl) rfl ?_
        refine RS.off (dj := 47) rfl (.inl (congrArg Value.bool hb7)) (fun _ => rfl) rfl ?_
        refine RS.off (dj := 47) rfl (.inl (congrArg Value.bool hb7)) (fun _ => rfl) rfl ?_
        refine RS.off (dj := 47) rfl (.inl (congrArg Value.bool hb7)) (fun _ => rfl) rfl ?_
        refine RS.off (dj := 47) rfl (.inl (congrArg Value.bool hb7)) (fun _ => rfl) rfl ?_
        refine RS.q rfl (QO.pickT (by rfl) hb7 (by rfl)) ?_
        refine RS.q rfl (QO.move) ?_
        refine RS.off (dj := 54) rfl (.inl (congrArg Value.bool rfl)) (fun _ => rfl) rfl ?_
        refine RS.off (dj := 54) rfl (.inl (congrArg Value.bool rfl)) (fun _ => rfl) rfl ?_
        refine RS.off (dj := 54) rfl (.inl (congrArg Value.bool rfl)) (fun _ => rfl) rfl ?_
        refine RS.q rfl (QO.pickT (by rfl) rfl (by rfl)) ?_
        refine RS.q rfl (QO.move) ?_
        refine RS.off (dj := 59) rfl (.inl (congrArg Value.bool rfl)) (fun _ => rfl) rfl ?_
        refine RS.off (dj := 59) rfl (.inl (congrArg Value.bool rfl)) (fun _ => rfl) rfl ?_
        refine RS.off (dj := 59) rfl (.inl (congrArg Value.bool rfl)) (fun _ => rfl) rfl ?_
        refine RS.q rfl (QO.pickT (by rfl) rfl (by rfl)) ?_
        refine RS.q rfl (QO.move) ?_
        refine RS.off (dj := 64) rfl (.inl (congrArg Value.bool rfl)) (fun _ => rfl) rfl ?_
        refine RS.off (dj := 64) rfl (.inl (congrArg Value.bool rfl)) (fun _ => rfl) rfl ?_
        refine RS.off (dj := 64) rfl (.inl (congrArg Value.bool rfl)) (fun _ => rfl) rfl ?_
        refine RS.q rfl (QO.pickT (by rfl) rfl (by rfl)) ?_
        refine RS.q rfl (QO.assign) ?_
        refine RS.nil ?_
        refine thenC_n ?_
        refine CS.condT (by rfl) rfl ?_
        refine CS.seq ?_
        refine CS.region ?_
        refine RS.q rfl (QO.assign) ?_
        refine RS.nil ?_
        refine thenC_n ?_
        refine CS.ret ?_
        refine blockC_r ?_
        refine thenC_r ?_
        refine blockC_r ?_
        refine thenC_r ?_
        refine loopQ_r ?_
        refine blockC_r ?_
        refine thenC_r ?_
        refine retQ.mk (H' := []) (.inr rfl) (RVs.tmp (by rfl) RVs.nil) (List.nil_sublist _) ?_
        exact ⟨congrArg iv (edE_at hn hs hlen hz (by omega) (hev.trans (evE1_3 (by assumption) (by omega) (by omega))) (by decide)).symm, rfl⟩
      have hb7p := of_decide_eq_false hb7
      refine RS.on (dj := 47) rfl (congrArg Value.bool hb7) ?_
      refine RS.q rfl (QO.fieldAddr fo134_4 (by rfl)) ?_
      refine RS.on (dj := 47) rfl (congrArg Value.bool hb7) ?_
      refine RS.q rfl (QO.load ty3 (by rfl) (by repeat (first | exact List.Mem.head _ | refine List.Mem.tail _ ?_)) (by rfl)) ?_
      refine RS.on (dj := 47) rfl (congrArg Value.bool hb7) ?_
      refine RS.q rfl (QO.fieldAddr fo134_3 (by rfl)) ?_
      refine RS.on (dj := 47) rfl (congrArg Value.bool hb7) ?_
      refine RS.q rfl (QO.load ty3 (by rfl) (by repeat (first | exact List.Mem.head _ | refine List.Mem.tail _ ?_)) (by rfl)) ?_
      refine RS.on (dj := 47) rfl (congrArg Value.bool hb7) ?_
      refine RS.q rfl (QO.leq (by rfl) (by rfl)) ?_
      refine RS.q rfl (QO.pickF (by rfl) hb7 (by rfl)) ?_
      refine RS.q rfl (QO.move) ?_
      refine RS.split (dj := 54) (by rfl) (fun hb8 => ?_) (fun hb8 => ?_)
      · have hb8p := of_decide_eq_true hb8
        refine RS.off (dj := 54) rfl (.inl (congrArg Value.bool hb8)) (fun _ => rfl) rfl ?_
        refine RS.off (dj := 54) rfl (.inl (congrArg Value.bool hb8)) (fun _ => rfl) rfl ?_
        refine RS.off (dj := 54) rfl (.inl (congrArg Value.bool hb8)) (fun _ => rfl) rfl ?_
        refine RS.q rfl (QO.pickT (by rfl) hb8 (by rfl)) ?_
        refine RS.q rfl (QO.move) ?_
        refine RS.off (dj := 59) rfl (.inl (congrArg Value.bool rfl)) (fun _ => rfl) rfl ?_
        refine RS.off (dj := 59) rfl (.inl (congrArg Value.bool rfl)) (fun _ => rfl) rfl ?_
        refine RS.off (dj := 59) rfl (.inl (congrArg Value.bool rfl)) (fun _ => rfl) rfl ?_
        refine RS.q rfl (QO.pickT (by rfl) rfl (by rfl)) ?_
        refine RS.q rfl (QO.move) ?_
        refine RS.off (dj := 64) rfl (.inl (congrArg Value.bool rfl)) (fun _ => rfl) rfl ?_
        refine RS.off (dj := 64) rfl (.inl (congrArg Value.bool rfl)) (fun _ => rfl) rfl ?_
        refine RS.off (dj := 64) rfl (.inl (congrArg Value.bool rfl)) (fun _ => rfl) rfl ?_
        refine RS.q rfl (QO.pickT (by rfl) rfl (by rfl)) ?_
        refine RS.q rfl (QO.assign) ?_
        refine RS.nil ?_
        refine thenC_n ?_
        refine CS.condT (by rfl) rfl ?_
        refine CS.seq ?_
        refine CS.region ?_
        refine RS.q rfl (QO.assign) ?_
        refine RS.nil ?_
        refine thenC_n ?_
        refine CS.ret ?_
        refine blockC_r ?_
        refine thenC_r ?_
        refine blockC_r ?_
        refine thenC_r ?_
        refine loopQ_r ?_
        refine blockC_r ?_
        refine thenC_r ?_
        refine retQ.mk (H' := []) (.inr rfl) (RVs.tmp (by rfl) RVs.nil) (List.nil_sublist _) ?_
        exact ⟨congrArg iv (edE_at hn hs hlen hz (by omega) (hev.trans (evE1_3 (by assumption) (by omega) (by omega))) (by decide)).symm, rfl⟩
      have hb8p := of_decide_eq_false hb8
      refine RS.on (dj := 54) rfl (congrArg Value.bool hb8) ?_
      refine RS.q rfl (QO.fieldAddr fo134_4 (by rfl)) ?_
      refine RS.on (dj := 54) rfl (congrArg Value.bool hb8) ?_
      refine RS.q rfl (QO.load ty3 (by rfl) (by repeat (first | exact List.Mem.head _ | refine List.Mem.tail _ ?_)) (by rfl)) ?_
      refine RS.on (dj := 54) rfl (congrArg Value.bool hb8) ?_
      refine RS.q rfl (QO.gtr (by rfl) (by rfl)) ?_
      refine RS.q rfl (QO.pickF (by rfl) hb8 (by rfl)) ?_
      refine RS.q rfl (QO.move) ?_
      refine RS.split (dj := 59) (by rfl) (fun hb9 => ?_) (fun hb9 => ?_)
      · have hb9p := of_decide_eq_true hb9
        refine RS.off (dj := 59) rfl (.inl (congrArg Value.bool hb9)) (fun _ => rfl) rfl ?_
        refine RS.off (dj := 59) rfl (.inl (congrArg Value.bool hb9)) (fun _ => rfl) rfl ?_
        refine RS.off (dj := 59) rfl (.inl (congrArg Value.bool hb9)) (fun _ => rfl) rfl ?_
        refine RS.q rfl (QO.pickT (by rfl) hb9 (by rfl)) ?_
        refine RS.q rfl (QO.move) ?_
        refine RS.off (dj := 64) rfl (.inl (congrArg Value.bool rfl)) (fun _ => rfl) rfl ?_
        refine RS.off (dj := 64) rfl (.inl (congrArg Value.bool rfl)) (fun _ => rfl) rfl ?_
        refine RS.off (dj := 64) rfl (.inl (congrArg Value.bool rfl)) (fun _ => rfl) rfl ?_
        refine RS.q rfl (QO.pickT (by rfl) rfl (by rfl)) ?_
        refine RS.q rfl (QO.assign) ?_
        refine RS.nil ?_
        refine thenC_n ?_
        refine CS.condT (by rfl) rfl ?_
        refine CS.seq ?_
        refine CS.region ?_
        refine RS.q rfl (QO.assign) ?_
        refine RS.nil ?_
        refine thenC_n ?_
        refine CS.ret ?_
        refine blockC_r ?_
        refine thenC_r ?_
        refine blockC_r ?_
        refine thenC_r ?_
        refine loopQ_r ?_
        refine blockC_r ?_
        refine thenC_r ?_
        refine retQ.mk (H' := []) (.inr rfl) (RVs.tmp (by rfl) RVs.nil) (List.nil_sublist _) ?_
        exact ⟨congrArg iv (edE_at hn hs hlen hz (by omega) (hev.trans (evE1_3 (by assumption) (by omega) (by omega))) (by decide)).symm, rfl⟩
      have hb9p := of_decide_eq_false hb9
      refine RS.on (dj := 59) rfl (congrArg Value.bool hb9) ?_
      refine RS.q rfl (QO.fieldAddr fo134_5 (by rfl)) ?_
      refine RS.on (dj := 59) rfl (congrArg Value.bool hb9) ?_
      refine RS.q rfl (QO.load ty3 (by rfl) (by repeat (first | exact List.Mem.head _ | refine List.Mem.tail _ ?_)) (by rfl)) ?_
      refine RS.on (dj := 59) rfl (congrArg Value.bool hb9) ?_
      refine RS.q rfl (QO.lss (by rfl) (by rfl)) ?_
      refine RS.q rfl (QO.pickF (by rfl) hb9 (by rfl)) ?_
      refine RS.q rfl (QO.move) ?_
      refine RS.split (dj := 64) (by rfl) (fun hb10 => ?_) (fun hb10 => ?_)
      · have hb10p := of_decide_eq_true hb10
        refine RS.off (dj := 64) rfl (.inl (congrArg Value.bool hb10)) (fun _ => rfl) rfl ?_
        refine RS.off (dj := 64) rfl (.inl (congrArg Value.bool hb10)) (fun _ => rfl) rfl ?_
        refine RS.off (dj := 64) rfl (.inl (congrArg Value.bool hb10)) (fun _ => rfl) rfl ?_
        refine RS.q rfl (QO.pickT (by rfl) hb10 (by rfl)) ?_
        refine RS.q rfl (QO.assign) ?_
        refine RS.nil ?_
        refine thenC_n ?_
        refine CS.condT (by rfl) rfl ?_
        refine CS.seq ?_
        refine CS.region ?_
        refine RS.q rfl (QO.assign) ?_
        refine RS.nil ?_
        refine thenC_n ?_
        refine CS.ret ?_
        refine blockC_r ?_
        refine thenC_r ?_
        refine blockC_r ?_
        refine thenC_r ?_
        refine loopQ_r ?_
        refine blockC_r ?_
        refine thenC_r ?_
        refine retQ.mk (H' := []) (.inr rfl) (RVs.tmp (by rfl) RVs.nil) (List.nil_sublist _) ?_
        exact ⟨congrArg iv (edE_at hn hs hlen hz (by omega) (hev.trans (evE1_3 (by assumption) (by omega) (by omega))) (by decide)).symm, rfl⟩
      have hb10p := of_decide_eq_false hb10
      refine RS.on (dj := 64) rfl (congrArg Value.bool hb10) ?_
      refine RS.q rfl (QO.fieldAddr fo134_5 (by rfl)) ?_
      refine RS.on (dj := 64) rfl (congrArg Value.bool hb10) ?_
      refine RS.q rfl (QO.load ty3 (by rfl) (by repeat (first | exact List.Mem.head _ | refine List.Mem.tail _ ?_)) (by rfl)) ?_
      refine RS.on (dj := 64) rfl (congrArg Value.bool hb10) ?_
      refine RS.q rfl (QO.gtr (by rfl) (by rfl)) ?_
      refine RS.q rfl (QO.pickF (by rfl) hb10 (by rfl)) ?_
      refine RS.q rfl (QO.assign) ?_
      refine RS.nil ?_
      refine thenC_n ?_
      refine CS.cond (by rfl) (fun hb11 => ?_) (fun hb11 => ?_)
      · have hb11p := of_decide_eq_true hb11
        refine CS.seq ?_
        refine CS.region ?_
        refine RS.q rfl (QO.assign) ?_
        refine RS.nil ?_
        refine thenC_n ?_
        refine CS.ret ?_
        refine blockC_r ?_
        refine thenC_r ?_
        refine blockC_r ?_
        refine thenC_r ?_
        refine loopQ_r ?_
        refine blockC_r ?_
        refine thenC_r ?_
        refine retQ.mk (H' := []) (.inr rfl) (RVs.tmp (by rfl) RVs.nil) (List.nil_sublist _) ?_
        exact ⟨congrArg iv (edE_at hn hs hlen hz (by omega) (hev.trans (evE1_3 (by assumption) (by omega) (by omega))) (by decide)).symm, rfl⟩
      have hb11p := of_decide_eq_false hb11
      refine CS.seq ?_
      refine CS.region ?_
      refine RS.q rfl (QO.move) ?_
      refine RS.q rfl (QO.move) ?_
      refine RS.split (dj := 71) (by rfl) (fun hb12 => ?_) (fun hb12 => ?_)
      · have hb12p := of_decide_eq_true hb12
        refine RS.on (dj := 71) rfl (congrArg Value.bool hb12) ?_
        refine RS.q rfl (QO.fieldAddr fo134_5 (by rfl)) ?_
        refine RS.on (dj := 71) rfl (congrArg Value.bool hb12) ?_
        refine RS.q rfl (QO.load ty3 (by rfl) (by repeat (first | exact List.Mem.head _ | refine List.Mem.tail _ ?_)) (by rfl)) ?_
        refine RS.on (dj := 71) rfl (congrArg Value.bool hb12) ?_
        refine RS.q rfl (QO.move) ?_
        refine RS.on (dj := 71) rfl (congrArg Value.bool hb12) ?_
        refine RS.q rfl (QO.lss (by rfl) (by rfl)) ?_
        refine RS.q rfl (QO.pickT (by rfl) hb12 (by rfl)) ?_
        refine RS.q rfl (QO.assign) ?_
        refine RS.nil ?_
        refine thenC_n ?_
        refine CS.cond (by rfl) (fun hb13 => ?_) (fun hb13 => ?_)
        · have hb13p := of_decide_eq_true hb13
          refine CS.seq ?_
          refine CS.region ?_
          refine RS.q rfl (QO.assign) ?_
          refine RS.nil ?_
          refine thenC_n ?_
          refine CS.ret ?_
          refine blockC_r ?_
          refine thenC_r ?_
          refine blockC_r ?_
          refine thenC_r ?_
          refine loopQ_r ?_
          refine blockC_r ?_
          refine thenC_r ?_
          refine retQ.mk (H' := []) (.inr rfl) (RVs.tmp (by rfl) RVs.nil) (List.nil_sublist _) ?_
          exact ⟨congrArg iv (edE_at hn hs hlen hz (by omega) (hev.trans (evE1_8 (by assumption) (by omega) (by omega) (by omega))) (by decide)).symm, rfl⟩
        have hb13p := of_decide_eq_false hb13
        refine CS.seq ?_
        refine CS.seq ?_
        refine CS.region ?_
        refine RS.q rfl (QO.fieldAddr fo134_1 (by rfl)) ?_
        refine RS.q rfl (QO.load ty3 (by rfl) (by repeat (first | exact List.Mem.head _ | refine List.Mem.tail _ ?_)) (by rfl)) ?_
        refine RS.q rfl (QO.eql (by rfl) (by rfl)) ?_
        refine RS.q rfl (QO.move) ?_
        refine RS.split (dj := 81) (by rfl) (fun hb14 => ?_) (fun hb14 => ?_)
        · have hb14p := eq_of_beq hb14
          refine RS.on (dj := 81) rfl (congrArg Value.bool hb14) ?_
          refine RS.q rfl (QO.fieldAddr fo134_2 (by rfl)) ?_
          refine RS.on (dj := 81) rfl (congrArg Value.bool hb14) ?_
          refine RS.q rfl (QO.load ty3 (by rfl) (by repeat (first | exact List.Mem.head _ | refine List.Mem.tail _ ?_)) (by rfl)) ?_
          refine RS.on (dj := 81) rfl (congrArg Value.bool hb14) ?_
          refine RS.q rfl (QO.neq (by rfl) (by rfl)) ?_
          refine RS.q rfl (QO.pickT (by rfl) hb14 (by rfl)) ?_
          refine RS.q rfl (QO.assign) ?_
          refine RS.nil ?_
          refine thenC_n ?_
          refine CS.cond (by rfl) (fun hb15 => ?_) (fun hb15 => ?_)
          · have hb15p := bne_iff_ne.1 hb15
            refine CS.skip ?_
            refine thenC_n ?_
            refine CS.condT (by rfl) hb15 ?_
            refine CS.seq ?_
            refine CS.region ?_
            refine RS.q rfl (QO.assign) ?_
            refine RS.nil ?_
            refine thenC_n ?_
            refine CS.ret ?_
            refine blockC_r ?_
            refine thenC_r ?_
            refine blockC_r ?_
            refine thenC_r ?_
            refine loopQ_r ?_
            refine blockC_r ?_
            refine thenC_r ?_
            refine retQ.mk (H' := []) (.inr rfl) (RVs.tmp (by rfl) RVs.nil) (List.nil_sublist _) ?_
            exact ⟨congrArg iv (edE_at hn hs hlen hz (by omega) (hev.trans (evE1_12 (by assumption) (by omega) (by omega) (by omega) (by omega))) (by decide)).symm, rfl⟩
          have hb15p := of_bne_false hb15
          refine CS.draw 31 rfl (by kernel_rfl) (by kernel_rfl) ?_
          refine RT.take (i := 0) rfl (by kernel_rfl) rfl (QO.fieldAddr fo134_1 (by rfl)) ?_
          refine RT.take (i := 1) rfl (by kernel_rfl) rfl (QO.load ty3 (by rfl) (by repeat (first | exact List.Mem.head _ | refine List.Mem.tail _ ?_)) (by rfl)) ?_
          refine RT.take (i := 2) rfl (by kernel_rfl) rfl (QO.eql (by rfl) (by rfl)) ?_
          refine RT.take (i := 3) rfl (by kernel_rfl) rfl (QO.move) ?_
          refine RT.split (dj := 89) (by rfl) (fun hb16 => ?_) (fun hb16 => ?_)
          · have hb16p := eq_of_beq hb16
            refine RT.takeOn (i := 4) (dj := 89) rfl rfl (congrArg Value.bool hb16) (by kernel_rfl) rfl (QO.fieldAddr fo134_2 (by rfl)) ?_
            refine RT.takeOn (i := 5) (dj := 89) rfl rfl (congrArg Value.bool hb16) (by kernel_rfl) rfl (QO.load ty3 (by rfl) (by repeat (first | exact List.Mem.head _ | refine List.Mem.tail _ ?_)) (by rfl)) ?_
            refine RT.takeOn (i := 6) (dj := 89) rfl rfl (congrArg Value.bool hb16) (by kernel_rfl) rfl (QO.lss (by rfl) (by rfl)) ?_
            refine RT.takeOn (i := 7) (dj := 89) rfl rfl (congrArg Value.bool hb16) (by kernel_rfl) rfl (QO.move) ?_
            refine RT.split (dj := 93) (by rfl) (fun hb17 => ?_) (fun hb17 => ?_)
            · have hb17p := of_decide_eq_true hb17
              refine RT.takeOff (i := 8) (dj := 93) rfl rfl (.inl (congrArg Value.bool hb17)) (fun _ => rfl) (by kernel_rfl) rfl ?_
              refine RT.takeOff (i := 9) (dj := 93) rfl rfl (.inl (congrArg Value.bool hb17)) (fun _ => rfl) (by kernel_rfl) rfl ?_
              refine RT.takeOff (i := 10) (dj := 93) rfl rfl (.inl (congrArg Value.bool hb17)) (fun _ => rfl) (by kernel_rfl) rfl ?_
              refine RT.takeOn (i := 11) (dj := 89) rfl rfl (congrArg Value.bool hb16) (by kernel_rfl) rfl (QO.pickT (by rfl) hb17 (by rfl)) ?_
              refine RT.takeOn (i := 12) (dj := 89) rfl rfl (congrArg Value.bool hb16) (by kernel_rfl) rfl (QO.move) ?_
              refine RT.takeOff (i := 13) (dj := 98) rfl rfl (.inl (congrArg Value.bool rfl)) (fun _ => rfl) (by kernel_rfl) rfl ?_
              refine RT.takeOff (i := 14) (dj := 98) rfl rfl (.inl (congrArg Value.bool rfl)) (fun _ => rfl) (by kernel_rfl) rfl ?_
              refine RT.takeOff (i := 15) (dj := 98) rfl rfl (.inl (congrArg Value.bool rfl)) (fun _ => rfl) (by kernel_rfl) rfl ?_
              refine RT.one (i := 16) (by kernel_rfl) rfl rfl ?_
              refine RS.off (dj := 98) rfl (.inl (congrArg Value.bool rfl)) (fun _ => rfl) rfl ?_
              refine RS.nil ⟨(by repeat (first | exact List.Sublist.refl _ | exact List.nil_sublist _ | refine List.Sublist.cons_cons _ ?_ | refine List.Sublist.cons _ ?_ | exact Sbp.refl | exact Sbp.nil | refine Sbp.cons (by repeat (first | exact Rem.head | apply Rem.tail)) ?_ | exact Sbp.app | refine Sbp.skip ?_)), ?_⟩
              refine RT.takeOff (i := 17) (dj := 98) rfl rfl (.inl (congrArg Value.bool rfl)) (fun _ => rfl) (by kernel_rfl) rfl ?_
              refine RT.takeOn (i := 18) (dj := 89) rfl rfl (congrArg Value.bool hb16) (by kernel_rfl) rfl (QO.pickT (by rfl) rfl (by rfl)) ?_
              refine RT.takeOn (i := 19) (dj := 89) rfl rfl (congrArg Value.bool hb16) (by kernel_rfl) rfl (QO.move) ?_
              refine RT.takeOff (i := 20) (dj := 105) rfl rfl (.inl (congrArg Value.bool rfl)) (fun _ => rfl) (by kernel_rfl) rfl ?_
              refine RT.takeOff (i := 21) (dj := 105) rfl rfl (.inl (congrArg Value.bool rfl)) (fun _ => rfl) (by kernel_rfl) rfl ?_
              refine RT.takeOn (i := 22) (dj := 89) rfl rfl (congrArg Value.bool hb16) (by kernel_rfl) rfl (QO.pickT (by rfl) rfl (by rfl)) ?_
              refine RT.takeOn (i := 23) (dj := 89) rfl rfl (congrArg Value.bool hb16) (by kernel_rfl) rfl (QO.move) ?_
              refine RT.takeOff (i := 24) (dj := 109) rfl rfl (.inl (congrArg Value.bool rfl)) (fun _ => rfl) (by kernel_rfl) rfl ?_
              refine RT.takeOff (i := 25) (dj := 109) rfl rfl (.inl (congrArg Value.bool rfl)) (fun _ => rfl) (by kernel_rfl) rfl ?_
              refine RT.takeOff (i := 26) (dj := 109) rfl rfl (.inl (congrArg Value.bool rfl)) (fun _ => rfl) (by kernel_rfl) rfl ?_
              refine RT.takeOff (i := 27) (dj := 109) rfl rfl (.inl (congrArg Value.bool rfl)) (fun _ => rfl) (by kernel_rfl) rfl ?_
              refine RT.takeOn (i := 28) (dj := 89) rfl rfl (congrArg Value.bool hb16) (by kernel_rfl) rfl (QO.pickT (by rfl) rfl (by rfl)) ?_
              refine RT.take (i := 29) rfl (by kernel_rfl) rfl (QO.pickT (by rfl) hb16 (by rfl)) ?_
              refine RT.take (i := 30) rfl (by kernel_rfl) rfl (QO.assign) ?_
              refine RT.done (by kernel_rfl) ?_
              refine thenC_n ?_
              refine CS.condT (by rfl) rfl ?_
              refine CS.seq ?_
              refine CS.region ?_
              refine RS.q rfl (QO.assign) ?_
              refine RS.nil ?_
              refine thenC_n ?_
              refine CS.ret ?_
              refine blockC_r ?_
              refine thenC_r ?_
              refine blockC_r ?_
              refine thenC_r ?_
              refine loopQ_r ?_
              refine blockC_r ?_
              refine thenC_r ?_
              refine retQ.mk (H' := []) (.inr rfl) (RVs.tmp (by rfl) RVs.nil) (List.nil_sublist _) ?_
              exact ⟨congrArg iv (edE_at hn hs hlen hz (by omega) (hev.trans (evE1_12 (by assumption) (by omega) (by omega) (by omega) (by omega))) (by decide)).symm, rfl⟩
            have hb17p := of_decide_eq_false hb17
            refine RT.takeOn (i := 8) (dj := 93) rfl rfl (congrArg Value.bool hb17) (by kernel_rfl) rfl (QO.fieldAddr fo134_2 (by rfl)) ?_
            refine RT.takeOn (i := 9) (dj := 93) rfl rfl (congrArg Value.bool hb17) (by kernel_rfl) rfl (QO.load ty3 (by rfl) (by repeat (first | exact List.Mem.head _ | refine List.Mem.tail _ ?_)) (by rfl)) ?_
            refine RT.takeOn (i := 10) (dj := 93) rfl rfl (congrArg Value.bool hb17) (by kernel_rfl) rfl (QO.gtr (by rfl) (by rfl)) ?_
            refine RT.takeOn (i := 11) (dj := 89) rfl rfl (congrArg Value.bool hb16) (by kernel_rfl) rfl (QO.pickF (by rfl) hb17 (by rfl)) ?_
            refine RT.takeOn (i := 12) (dj := 89) rfl rfl (congrArg Value.bool hb16) (by kernel_rfl) rfl (QO.move) ?_
            refine RT.split (dj := 98) (by rfl) (fun hb18 => ?_) (fun hb18 => ?_)
            · have hb18p := of_decide_eq_true hb18
              refine RT.takeOff (i := 13) (dj := 98) rfl rfl (.inl (congrArg Value.bool hb18)) (fun _ => rfl) (by kernel_rfl) rfl ?_
              refine RT.takeOff (i := 14) (dj := 98) rfl rfl (.inl (congrArg Value.bool hb18)) (fun _ => rfl) (by kernel_rfl) rfl ?_
              refine RT.takeOff (i := 15) (dj := 98) rfl rfl (.inl (congrArg Value.bool hb18)) (fun _ => rfl) (by kernel_rfl) rfl ?_
              refine RT.one (i := 16) (by kernel_rfl) rfl rfl ?_
              refine RS.off (dj := 98) rfl (.inl (congrArg Value.bool hb18)) (fun _ => rfl) rfl ?_
              refine RS.nil ⟨(by repeat (first | exact List.Sublist.refl _ | exact List.nil_sublist _ | refine List.Sublist.cons_cons _ ?_ | refine List.Sublist.cons _ ?_ | exact Sbp.refl | exact Sbp.nil | refine Sbp.cons (by repeat (first | exact Rem.head | apply Rem.tail)) ?_ | exact Sbp.app | refine Sbp.skip ?_)), ?_⟩
              refine RT.takeOff (i := 17) (dj := 98) rfl rfl (.inl (congrArg Value.bool hb18)) (fun _ => rfl) (by kernel_rfl) rfl ?_
              refine RT.takeOn (i := 18) (dj := 89) rfl rfl (congrArg Value.bool hb16) (by kernel_rfl) rfl (QO.pickT (by rfl) hb18 (by rfl)) ?_
              refine RT.takeOn (i := 19) (dj := 89) rfl rfl (congrArg Value.bool hb16) (by kernel_rfl) rfl (QO.move) ?_
              refine RT.takeOff (i := 20) (dj := 105) rfl rfl (.inl (congrArg Value.bool rfl)) (fun _ => rfl) (by kernel_rfl) rfl ?_
              refine RT.takeOff (i := 21) (dj := 105) rfl rfl (.inl (congrArg Value.bool rfl)) (fun _ => rfl) (by kernel_rfl) rfl ?_
              refine RT.takeOn (i := 22) (dj := 89) rfl rfl (congrArg Value.bool hb16) (by kernel_rfl) rfl (QO.pickT (by rfl) rfl (by rfl)) ?_
              refine RT.takeOn (i := 23) (dj := 89) rfl rfl (congrArg Value.bool hb16) (by kernel_rfl) rfl (QO.move) ?_
              refine RT.takeOff (i := 24) (dj := 109) rfl rfl (.inl (congrArg Value.bool rfl)) (fun _ => rfl) (by kernel_rfl) rfl ?_
              refine RT.takeOff (i := 25) (dj := 109) rfl rfl (.inl (congrArg Value.bool rfl)) (fun _ => rfl) (by kernel_rfl) rfl ?_
              refine RT.takeOff (i := 26) (dj := 109) rfl rfl (.inl (congrArg Value.bool rfl)) (fun _ => rfl) (by kernel_rfl) rfl ?_
              refine RT.takeOff (i := 27) (dj := 109) rfl rfl (.inl (congrArg Value.bool rfl)) (fun _ => rfl) (by kernel_rfl) rfl ?_
              refine RT.takeOn (i := 28) (dj := 89) rfl rfl (congrArg Value.bool hb16) (by kernel_rfl) rfl (QO.pickT (by rfl) rfl (by rfl)) ?_
              refine RT.take (i := 29) rfl (by kernel_rfl) rfl (QO.pickT (by rfl) hb16 (by rfl)) ?_
              refine RT.take (i := 30) rfl (by kernel_rfl) rfl (QO.assign) ?_
              refine RT.done (by kernel_rfl) ?_
              refine thenC_n ?_
              refine CS.condT (by rfl) rfl ?_
              refine CS.seq ?_
              refine CS.region ?_
              refine RS.q rfl (QO.assign) ?_
              refine RS.nil ?_
              refine thenC_n ?_
              refine CS.ret ?_
              refine blockC_r ?_
              refine thenC_r ?_
              refine blockC_r ?_
              refine thenC_r ?_
              refine loopQ_r ?_
              refine blockC_r ?_
              refine thenC_r ?_
              refine retQ.mk (H' := []) (.inr rfl) (RVs.tmp (by rfl) RVs.nil) (List.nil_sublist _) ?_
              exact ⟨congrArg iv (edE_at hn hs hlen hz (by omega) (hev.trans (evE1_12 (by assumption) (by omega) (by omega) (by omega) (by omega))) (by decide)).symm, rfl⟩
            have hb18p := of_decide_eq_false hb18
            refine RT.takeOn (i := 13) (dj := 98) rfl rfl (congrArg Value.bool hb18) (by kernel_rfl) rfl (QO.fieldAddr fo134_2 (by rfl)) ?_
            refine RT.takeOn (i := 14) (dj := 98) rfl rfl (congrArg Value.bool hb18) (by kernel_rfl) rfl (QO.load ty3 (by rfl) (by repeat (first | exact List.Mem.head _ | refine List.Mem.tail _ ?_)) (by rfl)) ?_
            refine RT.takeOn (i := 15) (dj := 98) rfl rfl (congrArg Value.bool hb18) (by kernel_rfl) rfl (QO.loadB ty134 (by rfl) (by repeat (first | exact List.Mem.head _ | refine List.Mem.tail _ ?_)) (by rfl)) ?_
            refine RT.one (i := 16) (by kernel_rfl) rfl rfl ?_
            refine RS.on (dj := 98) rfl (congrArg Value.bool hb18) ?_
            refine RS.call rfl (by rfl) ok97 (by rfl) (fun w ho => long_ e _ (by omega)) ?_
            rintro _ _ ⟨rfl, rfl⟩
            refine RS.nil ⟨(by repeat (first | exact List.Sublist.refl _ | exact List.nil_sublist _ | refine List.Sublist.cons_cons _ ?_ | refine List.Sublist.cons _ ?_ | exact Sbp.refl | exact Sbp.nil | refine Sbp.cons (by repeat (first | exact Rem.head | apply Rem.tail)) ?_ | exact Sbp.app | refine Sbp.skip ?_)), ?_⟩
            refine RT.takeOn (i := 17) (dj := 98) rfl rfl (congrArg Value.bool hb18) (by kernel_rfl) rfl (QO.gtr (by rfl) (by rfl)) ?_
            refine RT.takeOn (i := 18) (dj := 89) rfl rfl (congrArg Value.bool hb16) (by kernel_rfl) rfl (QO.pickF (by rfl) hb18 (by rfl)) ?_
            refine RT.takeOn (i := 19) (dj := 89) rfl rfl (congrArg Value.bool hb16) (by kernel_rfl) rfl (QO.move) ?_
            refine RT.split (dj := 105) (by rfl) (fun hb19 => ?_) (fun hb19 => ?_)
            · have hb19p := of_decide_eq_true hb19
              refine RT.takeOff (i := 20) (dj := 105) rfl rfl (.inl (congrArg Value.bool hb19)) (fun _ => rfl) (by kernel_rfl) rfl ?_
              refine RT.takeOff (i := 21) (dj := 105) rfl rfl (.inl (congrArg Value.bool hb19)) (fun _ => rfl) (by kernel_rfl) rfl ?_
              refine RT.takeOn (i := 22) (dj := 89) rfl rfl (congrArg Value.bool hb16) (by kernel_rfl) rfl (QO.pickT (by rfl) hb19 (by rfl)) ?_
              refine RT.takeOn (i := 23) (dj := 89) rfl rfl (congrArg Value.bool hb16) (by kernel_rfl) rfl (QO.move) ?_
              refine RT.takeOff (i := 24) (dj := 109) rfl rfl (.inl (congrArg Value.bool rfl)) (fun _ => rfl) (by kernel_rfl) rfl ?_
              refine RT.takeOff (i := 25) (dj := 109) rfl rfl (.inl (congrArg Value.bool rfl)) (fun _ => rfl) (by kernel_rfl) rfl ?_
              refine RT.takeOff (i := 26) (dj := 109) rfl rfl (.inl (congrArg Value.bool rfl)) (fun _ => rfl) (by kernel_rfl) rfl ?_
              refine RT.takeOff (i := 27) (dj := 109) rfl rfl (.inl (congrArg Value.bool rfl)) (fun _ => rfl) (by kernel_rfl) rfl ?_
              refine RT.takeOn (i := 28) (dj := 89) rfl rfl (congrArg Value.bool hb16) (by kernel_rfl) rfl (QO.pickT (by rfl) rfl (by rfl)) ?_
              refine RT.take (i := 29) rfl (by kernel_rfl) rfl (QO.pickT (by rfl) hb16 (by rfl)) ?_
              refine RT.take (i := 30) rfl (by kernel_rfl) rfl (QO.assign) ?_
              refine RT.done (by kernel_rfl) ?_
              refine thenC_n ?_
              refine CS.condT (by rfl) rfl ?_
              refine CS.seq ?_
              refine CS.region ?_
              refine RS.q rfl (QO.assign) ?_
              refine RS.nil ?_
              refine thenC_n ?_
              refine CS.ret ?_
              refine blockC_r ?_
              refine thenC_r ?_
              refine blockC_r ?_
              refine thenC_r ?_
              refine loopQ_r ?_
              refine blockC_r ?_
              refine thenC_r ?_
              refine retQ.mk (H' := []) (.inr rfl) (RVs.tmp (by rfl) RVs.nil) (List.nil_sublist _) ?_
              exact ⟨congrArg iv (edE_at hn hs hlen hz (by omega) (hev.trans (evE1_12 (by assumption) (by omega) (by omega) (by omega) (by omega))) (by decide)).symm, rfl⟩
            have hb19p := of_decide_eq_false hb19
            refine RT.takeOn (i := 20) (dj := 105) rfl rfl (congrArg Value.bool hb19) (by kernel_rfl) rfl (QO.move) ?_
            refine RT.takeOn (i := 21) (dj := 105) rfl rfl (congrArg Value.bool hb19) (by kernel_rfl) rfl (QO.not (by rfl)) ?_
            refine RT.takeOn (i := 22) (dj := 89) rfl rfl (congrArg Value.bool hb16) (by kernel_rfl) rfl (QO.pickF (by rfl) hb19 (by rfl)) ?_
            refine RT.takeOn (i := 23) (dj := 89) rfl rfl (congrArg Value.bool hb16) (by kernel_rfl) rfl (QO.move) ?_
            refine RT.takeOn (i := 24) (dj := 109) rfl rfl (congrArg Value.bool (by rw [hb12] <;> rfl)) (by kernel_rfl) rfl (QO.fieldAddr fo134_5 (by rfl)) ?_
            refine RT.takeOn (i := 25) (dj := 109) rfl rfl (congrArg Value.bool (by rw [hb12] <;> rfl)) (by kernel_rfl) rfl (QO.load ty3 (by rfl) (by repeat (first | exact List.Mem.head _ | refine List.Mem.tail _ ?_)) (by rfl)) ?_
            refine RT.takeOn (i := 26) (dj := 109) rfl rfl (congrArg Value.bool (by rw [hb12] <;> rfl)) (by kernel_rfl) rfl (QO.move) ?_
            refine RT.takeOn (i := 27) (dj := 109) rfl rfl (congrArg Value.bool (by rw [hb12] <;> rfl)) (by kernel_rfl) rfl (QO.neq (by rfl) (by rfl)) ?_
            refine RT.takeOn (i := 28) (dj := 89) rfl rfl (congrArg Value.bool hb16) (by kernel_rfl) rfl (QO.pickF (by rfl) (by rw [hb12] <;> rfl) (by rfl)) ?_
            refine RT.take (i := 29) rfl (by kernel_rfl) rfl (QO.pickT (by rfl) hb16 (by rfl)) ?_
            refine RT.take (i := 30) rfl (by kernel_rfl) rfl (QO.assign) ?_
            refine RT.done (by kernel_rfl) ?_
            refine thenC_n ?_
            refine CS.cond (by rfl) (fun hb20 => ?_) (fun hb20 => ?_)
            · have hb20p := bne_iff_ne.1 hb20
              refine CS.seq ?_
              refine CS.region ?_
              refine RS.q rfl (QO.assign) ?_
              refine RS.nil ?_
              refine thenC_n ?_
              refine CS.ret ?_
              refine blockC_r ?_
              refine thenC_r ?_
              refine blockC_r ?_
              refine thenC_r ?_
              refine loopQ_r ?_
              refine blockC_r ?_
              refine thenC_r ?_
              refine retQ.mk (H' := []) (.inr rfl) (RVs.tmp (by rfl) RVs.nil) (List.nil_sublist _) ?_
              exact ⟨congrArg iv (edE_at hn hs hlen hz (by omega) (hev.trans (evE1_12 (by assumption) (by omega) (by omega) (by omega) (by omega))) (by decide)).symm, rfl⟩
            have hb20p := of_bne_false hb20
            refine CS.skip ?_
            refine blockC_n ?_
            refine thenC_n ?_
            refine CS.draw 7 rfl (by kernel_rfl) (by kernel_rfl) ?_
            refine RT.take (i := 0) rfl (by kernel_rfl) rfl (QO.fieldAddr fo134_5 (by rfl)) ?_
            refine RT.take (i := 1) rfl (by kernel_rfl) rfl (QO.load ty3 (by rfl) (by repeat (first | exact List.Mem.head _ | refine List.Mem.tail _ ?_)) (by rfl)) ?_
            refine RT.take (i := 2) rfl (by kernel_rfl) rfl (QO.loadB ty134 (by rfl) (by repeat (first | exact List.Mem.head _ | refine List.Mem.tail _ ?_)) (by rfl)) ?_
            refine RT.one (i := 3) (by kernel_rfl) rfl rfl ?_
            refine RS.call rfl (by rfl) ok97 (by rfl) (fun w ho => long_ e _ (by omega)) ?_
            rintro _ _ ⟨rfl, rfl⟩
            refine RS.nil ⟨(by repeat (first | exact List.Sublist.refl _ | exact List.nil_sublist _ | refine List.Sublist.cons_cons _ ?_ | refine List.Sublist.cons _ ?_ | exact Sbp.refl | exact Sbp.nil | refine Sbp.cons (by repeat (first | exact Rem.head | apply Rem.tail)) ?_ | exact Sbp.app | refine Sbp.skip ?_)), ?_⟩
            refine RT.take (i := 4) rfl (by kernel_rfl) rfl (QO.add (by rfl) (by rfl) (by omega) (by omega)) ?_
            refine RT.take (i := 5) rfl (by kernel_rfl) rfl (QO.assign) ?_
            refine RT.take (i := 6) rfl (by kernel_rfl) rfl (QO.assign) ?_
            refine RT.done (by kernel_rfl) ?_
            refine blockC_n ?_
            refine thenC_n ?_
            refine CS.region ?_
            refine RS.q rfl (QO.add (by rfl) (by rfl) (by omega) (by omega)) ?_
            refine RS.q rfl (QO.move) ?_
            refine RS.nil ?_
            refine loopQ_n (by intro t ht; repeat (first | with_reducible exact rfl | exact frame_puts ht (frame_mix ht) _ rfl | (refine frame_put rfl ht ?_) | (refine frame_puts ht ?_ _ rfl) | exact frame_mix ht | (refine frame_mix2 rfl ht ?_) | exact rfl)) ?_
            exact ⟨k + 1, ⟨by omega, firstE_go hz (hev.trans (evE1_0 (by assumption) (by omega) (by omega) (by omega) (by omega)))⟩, by omega, kn_cons (by rfl) (kn_cons (congrArg iv (show e.at_ + (e.out - e.inn) = endB l (k + 1) from hen.symm)) (kn_cons (congrArg Value.bool (show true = decide (0 < ((k + 1 : Nat) : Int)) from (decide_eq_true (by omega)).symm)) kn_nil)), (by repeat (first | exact List.Sublist.refl _ | exact List.nil_sublist _ | refine List.Sublist.cons_cons _ ?_ | refine List.Sublist.cons _ ?_ | exact Sbp.refl | exact Sbp.nil | refine Sbp.cons (by repeat (first | exact Rem.head | apply Rem.tail)) ?_ | exact Sbp.app | refine Sbp.skip ?_))⟩
          have hb16p := ne_of_beq_false hb16
          refine RT.takeOff (i := 4) (dj := 89) rfl rfl (.inl (congrArg Value.bool hb16)) (fun _ => rfl) (by kernel_rfl) rfl ?_
          refine RT.takeOff (i := 5) (dj := 89) rfl rfl (.inl (congrArg Value.bool hb16)) (fun _ => rfl) (by kernel_rfl) rfl ?_
          refine RT.takeOff (i := 6) (dj := 89) rfl rfl (.inl (congrArg Value.bool hb16)) (fun _ => rfl) (by kernel_rfl) rfl ?_
          refine RT.takeOff (i := 7) (dj := 89) rfl rfl (.inl (congrArg Value.bool hb16)) (fun _ => rfl) (by kernel_rfl) rfl ?_
          refine RT.takeOff (i := 8) (dj := 93) (c := true) rfl rfl (.inr rfl) (fun h => by cases h) (by kernel_rfl) rfl ?_
          refine RT.takeOff (i := 9) (dj := 93) (c := true) rfl rfl (.inr rfl) (fun h => by cases h) (by kernel_rfl) rfl ?_
          refine RT.takeOff (i := 10) (dj := 93) (c := true) rfl rfl (.inr rfl) (fun h => by cases h) (by kernel_rfl) rfl ?_
          refine RT.takeOff (i := 11) (dj := 89) rfl rfl (.inl (congrArg Value.bool hb16)) (fun _ => rfl) (by kernel_rfl) rfl ?_
          refine RT.takeOff (i := 12) (dj := 89) rfl rfl (.inl (congrArg Value.bool hb16)) (fun _ => rfl) (by kernel_rfl) rfl ?_
          refine RT.takeOff (i := 13) (dj := 98) (c := true) rfl rfl (.inr rfl) (fun h => by cases h) (by kernel_rfl) rfl ?_
          refine RT.takeOff (i := 14) (dj := 98) (c := true) rfl rfl (.inr rfl) (fun h => by cases h) (by kernel_rfl) rfl ?_
          refine RT.takeOff (i := 15) (dj := 98) (c := true) rfl rfl (.inr rfl) (fun h => by cases h) (by kernel_rfl) rfl ?_
          refine RT.one (i := 16) (by kernel_rfl) rfl rfl ?_
          refine RS.off (dj := 98) (c := true) rfl (.inr rfl) (fun h => by cases h) rfl ?_
          refine RS.nil ⟨(by repeat (first | exact List.Sublist.refl _ | exact List.nil_sublist _ | refine List.Sublist.cons_cons _ ?_ | refine List.Sublist.cons _ ?_ | exact Sbp.refl | exact Sbp.nil | refine Sbp.cons (by repeat (first | exact Rem.head | apply Rem.tail)) ?_ | exact Sbp.app | refine Sbp.skip ?_)), ?_⟩
          refine RT.takeOff (i := 17) (dj := 98) (c := true) rfl rfl (.inr rfl) (fun h => by cases h) (by kernel_rfl) rfl ?_
          refine RT.takeOff (i := 18) (dj := 89) rfl rfl (.inl (congrArg Value.bool hb16)) (fun _ => rfl) (by kernel_rfl) rfl ?_
          refine RT.takeOff (i := 19) (dj := 89) rfl rfl (.inl (congrArg Value.bool hb16)) (fun _ => rfl) (by kernel_rfl) rfl ?_
          refine RT.takeOff (i := 20) (dj := 105) (c := true) rfl rfl (.inr rfl) (fun h => by cases h) (by kernel_rfl) rfl ?_
          refine RT.takeOff (i := 21) (dj := 105) (c := true) rfl rfl (.inr rfl) (fun h => by cases h) (by kernel_rfl) rfl ?_
          refine RT.takeOff (i := 22) (dj := 89) rfl rfl (.inl (congrArg Value.bool hb16)) (fun _ => rfl) (by kernel_rfl) rfl ?_
          refine RT.takeOff (i := 23) (dj := 89) rfl rfl (.inl (congrArg Value.bool hb16)) (fun _ => rfl) (by kernel_rfl) rfl ?_
          refine RT.takeOff (i := 24) (dj := 109) (c := true) rfl rfl (.inr rfl) (fun h => by cases h) (by kernel_rfl) rfl ?_
          refine RT.takeOff (i := 25) (dj := 109) (c := true) rfl rfl (.inr rfl) (fun h => by cases h) (by kernel_rfl) rfl ?_
          refine RT.takeOff (i := 26) (dj := 109) (c := true) rfl rfl (.inr rfl) (fun h => by cases h) (by kernel_rfl) rfl ?_
          refine RT.takeOff (i := 27) (dj := 109) (c := true) rfl rfl (.inr rfl) (fun h => by cases h) (by kernel_rfl) rfl ?_
          refine RT.takeOff (i := 28) (dj := 89) rfl rfl (.inl (congrArg Value.bool hb16)) (fun _ => rfl) (by kernel_rfl) rfl ?_
          refine RT.take (i := 29) rfl (by kernel_rfl) rfl (QO.pickF (by rfl) hb16 (by rfl)) ?_
          refine RT.take (i := 30) rfl (by kernel_rfl) rfl (QO.assign) ?_
          refine RT.done (by kernel_rfl) ?_
          refine thenC_n ?_
          refine CS.condF (by rfl) rfl ?_
          refine CS.skip ?_
          refine blockC_n ?_
          refine thenC_n ?_
          refine CS.draw 7 rfl (by kernel_rfl) (by kernel_rfl) ?_
          refine RT.take (i := 0) rfl (by kernel_rfl) rfl (QO.fieldAddr fo134_5 (by rfl)) ?_
          refine RT.take (i := 1) rfl (by kernel_rfl) rfl (QO.load ty3 (by rfl) (by repeat (first | exact List.Mem.head _ | refine List.Mem.tail _ ?_)) (by rfl)) ?_
          refine RT.take (i := 2) rfl (by kernel_rfl) rfl (QO.loadB ty134 (by rfl) (by repeat (first | exact List.Mem.head _ | refine List.Mem.tail _ ?_)) (by rfl)) ?_
          refine RT.one (i := 3) (by kernel_rfl) rfl rfl ?_
          refine RS.call rfl (by rfl) ok97 (by rfl) (fun w ho => long_ e _ (by omega)) ?_
          rintro _ _ ⟨rfl, rfl⟩
          refine RS.nil ⟨(by repeat (first | exact List.Sublist.refl _ | exact List.nil_sublist _ | refine List.Sublist.cons_cons _ ?_ | refine List.Sublist.cons _ ?_ | exact Sbp.refl | exact Sbp.nil | refine Sbp.cons (by repeat (first | exact Rem.head | apply Rem.tail)) ?_ | exact Sbp.app | refine Sbp.skip ?_)), ?_⟩
          refine RT.take (i := 4) rfl (by kernel_rfl) rfl (QO.add (by rfl) (by rfl) (by omega) (by omega)) ?_
          refine RT.take (i := 5) rfl (by kernel_rfl) rfl (QO.assign) ?_
          refine RT.take (i := 6) rfl (by kernel_rfl) rfl (QO.assign) ?_
          refine RT.done (by kernel_rfl) ?_
          refine blockC_n ?_
          refine thenC_n ?_
          refine CS.region ?_
          refine RS.q rfl (QO.add (by rfl) (by rfl) (by omega) (by omega)) ?_
          refine RS.q rfl (QO.move) ?_
          refine RS.nil ?_
          refine loopQ_n (by intro t ht; repeat (first | with_reducible exact rfl | exact frame_puts ht (frame_mix ht) _ rfl | (refine frame_put rfl ht ?_) | (refine frame_puts ht ?_ _ rfl) | exact frame_mix ht | (refine frame_mix2 rfl ht ?_) | exact rfl)) ?_
          exact ⟨k + 1, ⟨by omega, firstE_go hz (hev.trans (evE1_0 (by assumption) (by omega) (by omega) (by omega) (by omega)))⟩, by omega, kn_cons (by rfl) (kn_cons (congrArg iv (show e.at_ + (e.out - e.inn) = endB l (k + 1) from hen.symm)) (kn_cons (congrArg Value.bool (show true = decide (0 < ((k + 1 : Nat) : Int)) from (decide_eq_true (by omega)).symm)) kn_nil)), (by repeat (first | exact List.Sublist.refl _ | exact List.nil_sublist _ | refine List.Sublist.cons_cons _ ?_ | refine List.Sublist.cons _ ?_ | exact Sbp.refl | exact Sbp.nil | refine Sbp.cons (by repeat (first | exact Rem.head | apply Rem.tail)) ?_ | exact Sbp.app | refine Sbp.skip ?_))⟩
        have hb14p := ne_of_beq_false hb14
        refine RS.off (dj := 81) rfl (.inl (congrArg Value.bool hb14)) (fun _ => rfl) rfl ?_
        refine RS.off (dj := 81) rfl (.inl (congrArg Value.bool hb14)) (fun _ => rfl) rfl ?_
        refine RS.off (dj := 81) rfl (.inl (congrArg Value.bool hb14)) (fun _ => rfl) rfl ?_
        refine RS.q rfl (QO.pickF (by rfl) hb14 (by rfl)) ?_
        refine RS.q rfl (QO.assign) ?_
        refine RS.nil ?_
        refine thenC_n ?_
        refine CS.condF (by rfl) rfl ?_
        refine CS.draw 31 rfl (by kernel_rfl) (by kernel_rfl) ?_
        refine RT.take (i := 0) rfl (by kernel_rfl) rfl (QO.fieldAddr fo134_1 (by rfl)) ?_
        refine RT.take (i := 1) rfl (by kernel_rfl) rfl (QO.load ty3 (by rfl) (by repeat (first | exact List.Mem.head _ | refine List.Mem.tail _ ?_)) (by rfl)) ?_
        refine RT.take (i := 2) rfl (by kernel_rfl) rfl (QO.eql (by rfl) (by rfl)) ?_
        refine RT.take (i := 3) rfl (by kernel_rfl) rfl (QO.move) ?_
        refine RT.split (dj := 89) (by rfl) (fun hb21 => ?_) (fun hb21 => ?_)
        · have hb21p := eq_of_beq hb21
          refine RT.takeOn (i := 4) (dj := 89) rfl rfl (congrArg Value.bool hb21) (by kernel_rfl) rfl (QO.fieldAddr fo134_2 (by rfl)) ?_
          refine RT.takeOn (i := 5) (dj := 89) rfl rfl (congrArg Value.bool hb21) (by kernel_rfl) rfl (QO.load ty3 (by rfl) (by repeat (first | exact List.Mem.head _ | refine List.Mem.tail _ ?_)) (by rfl)) ?_
          refine RT.takeOn (i := 6) (dj := 89) rfl rfl (congrArg Value.bool hb21) (by kernel_rfl) rfl (QO.lss (by rfl) (by rfl)) ?_
          refine RT.takeOn (i := 7) (dj := 89) rfl rfl (congrArg Value.bool hb21) (by kernel_rfl) rfl (QO.move) ?_
          refine RT.split (dj := 93) (by rfl) (fun hb22 => ?_) (fun hb22 => ?_)
          · have hb22p := of_decide_eq_true hb22
            refine RT.takeOff (i := 8) (dj := 93) rfl rfl (.inl (congrArg Value.bool hb22)) (fun _ => rfl) (by kernel_rfl) rfl ?_
            refine RT.takeOff (i := 9) (dj := 93) rfl rfl (.inl (congrArg Value.bool hb22)) (fun _ => rfl) (by kernel_rfl) rfl ?_
            refine RT.takeOff (i := 10) (dj := 93) rfl rfl (.inl (congrArg Value.bool hb22)) (fun _ => rfl) (by kernel_rfl) rfl ?_
            refine RT.takeOn (i := 11) (dj := 89) rfl rfl (congrArg Value.bool hb21) (by kernel_rfl) rfl (QO.pickT (by rfl) hb22 (by rfl)) ?_
            refine RT.takeOn (i := 12) (dj := 89) rfl rfl (congrArg Value.bool hb21) (by kernel_rfl) rfl (QO.move) ?_
            refine RT.takeOff (i := 13) (dj := 98) rfl rfl (.inl (congrArg Value.bool rfl)) (fun _ => rfl) (by kernel_rfl) rfl ?_
            refine RT.takeOff (i := 14) (dj := 98) rfl rfl (.inl (congrArg Value.bool rfl)) (fun _ => rfl) (by kernel_rfl) rfl ?_
            refine RT.takeOff (i := 15) (dj := 98) rfl rfl (.inl (congrArg Value.bool rfl)) (fun _ => rfl) (by kernel_rfl) rfl ?_
            refine RT.one (i := 16) (by kernel_rfl) rfl rfl ?_
            refine RS.off (dj := 98) rfl (.inl (congrArg Value.bool rfl)) (fun _ => rfl) rfl ?_
            refine RS.nil ⟨(by repeat (first | exact List.Sublist.refl _ | exact List.nil_sublist _ | refine List.Sublist.cons_cons _ ?_ | refine List.Sublist.cons _ ?_ | exact Sbp.refl | exact Sbp.nil | refine Sbp.cons (by repeat (first | exact Rem.head | apply Rem.tail)) ?_ | exact Sbp.app | refine Sbp.skip ?_)), ?_⟩
            refine RT.takeOff (i := 17) (dj := 98) rfl rfl (.inl (congrArg Value.bool rfl)) (fun _ => rfl) (by kernel_rfl) rfl ?_
            refine RT.takeOn (i := 18) (dj := 89) rfl rfl (congrArg Value.bool hb21) (by kernel_rfl) rfl (QO.pickT (by rfl) rfl (by rfl)) ?_
            refine RT.takeOn (i := 19) (dj := 89) rfl rfl (congrArg Value.bool hb21) (by kernel_rfl) rfl (QO.move) ?_
            refine RT.takeOff (i := 20) (dj := 105) rfl rfl (.inl (congrArg Value.bool rfl)) (fun _ => rfl) (by kernel_rfl) rfl ?_
            refine RT.takeOff (i := 21) (dj := 105) rfl rfl (.inl (congrArg Value.bool rfl)) (fun _ => rfl) (by kernel_rfl) rfl ?_
            refine RT.takeOn (i := 22) (dj := 89) rfl rfl (congrArg Value.bool hb21) (by kernel_rfl) rfl (QO.pickT (by rfl) rfl (by rfl)) ?_
            refine RT.takeOn (i := 23) (dj := 89) rfl rfl (congrArg Value.bool hb21) (by kernel_rfl) rfl (QO.move) ?_
            refine RT.takeOff (i := 24) (dj := 109) rfl rfl (.inl (congrArg Value.bool rfl)) (fun _ => rfl) (by kernel_rfl) rfl ?_
            refine RT.takeOff (i := 25) (dj := 109) rfl rfl (.inl (congrArg Value.bool rfl)) (fun _ => rfl) (by kernel_rfl) rfl ?_
            refine RT.takeOff (i := 26) (dj := 109) rfl rfl (.inl (congrArg Value.bool rfl)) (fun _ => rfl) (by kernel_rfl) rfl ?_
            refine RT.takeOff (i := 27) (dj := 109) rfl rfl (.inl (congrArg Value.bool rfl)) (fun _ => rfl) (by kernel_rfl) rfl ?_
            refine RT.takeOn (i := 28) (dj := 89) rfl rfl (congrArg Value.bool hb21) (by kernel_rfl) rfl (QO.pickT (by rfl) rfl (by rfl)) ?_
            refine RT.take (i := 29) rfl (by kernel_rfl) rfl (QO.pickT (by rfl) hb21 (by rfl)) ?_
            refine RT.take (i := 30) rfl (by kernel_rfl) rfl (QO.assign) ?_
            refine RT.done (by kernel_rfl) ?_
            refine thenC_n ?_
            refine CS.condT (by rfl) rfl ?_
            refine CS.seq ?_
            refine CS.region ?_
            refine RS.q rfl (QO.assign) ?_
            refine RS.nil ?_
            refine thenC_n ?_
            refine CS.ret ?_
            refine blockC_r ?_
            refine thenC_r ?_
            refine blockC_r ?_
            refine thenC_r ?_
            refine loopQ_r ?_
            refine blockC_r ?_
            refine thenC_r ?_
            refine retQ.mk (H' := []) (.inr rfl) (RVs.tmp (by rfl) RVs.nil) (List.nil_sublist _) ?_
            exact ⟨congrArg iv (edE_at hn hs hlen hz (by omega) (hev.trans (evE1_12 (by assumption) (by omega) (by omega) (by omega) (by omega))) (by decide)).symm, rfl⟩
          have hb22p := of_decide_eq_false hb22
          refine RT.takeOn (i := 8) (dj := 93) rfl rfl (congrArg Value.bool hb22) (by kernel_rfl) rfl (QO.fieldAddr fo134_2 (by rfl)) ?_
          refine RT.takeOn (i := 9) (dj := 93) rfl rfl (congrArg Value.bool hb22) (by kernel_rfl) rfl (QO.load ty3 (by rfl) (by repeat (first | exact List.Mem.head _ | refine List.Mem.tail _ ?_)) (by rfl)) ?_
          refine RT.takeOn (i := 10) (dj := 93) rfl rfl (congrArg Value.bool hb22) (by kernel_rfl) rfl (QO.gtr (by rfl) (by rfl)) ?_
          refine RT.takeOn (i := 11) (dj := 89) rfl rfl (congrArg Value.bool hb21) (by kernel_rfl) rfl (QO.pickF (by rfl) hb22 (by rfl)) ?_
          refine RT.takeOn (i := 12) (dj := 89) rfl rfl (congrArg Value.bool hb21) (by kernel_rfl) rfl (QO.move) ?_
          refine RT.split (dj := 98) (by rfl) (fun hb23 => ?_) (fun hb23 => ?_)
          · have hb23p := of_decide_eq_true hb23
            refine RT.takeOff (i := 13) (dj := 98) rfl rfl (.inl (congrArg Value.bool hb23)) (fun _ => rfl) (by kernel_rfl) rfl ?_
            refine RT.takeOff (i := 14) (dj := 98) rfl rfl (.inl (congrArg Value.bool hb23)) (fun _ => rfl) (by kernel_rfl) rfl ?_
            refine RT.takeOff (i := 15) (dj := 98) rfl rfl (.inl (congrArg Value.bool hb23)) (fun _ => rfl) (by kernel_rfl) rfl ?_
            refine RT.one (i := 16) (by kernel_rfl) rfl rfl ?_
            refine RS.off (dj := 98) rfl (.inl (congrArg Value.bool hb23)) (fun _ => rfl) rfl ?_
            refine RS.nil ⟨(by repeat (first | exact List.Sublist.refl _ | exact List.nil_sublist _ | refine List.Sublist.cons_cons _ ?_ | refine List.Sublist.cons _ ?_ | exact Sbp.refl | exact Sbp.nil | refine Sbp.cons (by repeat (first | exact Rem.head | apply Rem.tail)) ?_ | exact Sbp.app | refine Sbp.skip ?_)), ?_⟩
            refine RT.takeOff (i := 17) (dj := 98) rfl rfl (.inl (congrArg Value.bool hb23)) (fun _ => rfl) (by kernel_rfl) rfl ?_
            refine RT.takeOn (i := 18) (dj := 89) rfl rfl (congrArg Value.bool hb21) (by kernel_rfl) rfl (QO.pickT (by rfl) hb23 (by rfl)) ?_
            refine RT.takeOn (i := 19) (dj := 89) rfl rfl (congrArg Value.bool hb21) (by kernel_rfl) rfl (QO.move) ?_
            refine RT.takeOff (i := 20) (dj := 105) rfl rfl (.inl (congrArg Value.bool rfl)) (fun _ => rfl) (by kernel_rfl) rfl ?_
            refine RT.takeOff (i := 21) (dj := 105) rfl rfl (.inl (congrArg Value.bool rfl)) (fun _ => rfl) (by kernel_rfl) rfl ?_
            refine RT.takeOn (i := 22) (dj := 89) rfl rfl (congrArg Value.bool hb21) (by kernel_rfl) rfl (QO.pickT (by rfl) rfl (by rfl)) ?_
            refine RT.takeOn (i := 23) (dj := 89) rfl rfl (congrArg Value.bool hb21) (by kernel_rfl) rfl (QO.move) ?_
            refine RT.takeOff (i := 24) (dj := 109) rfl rfl (.inl (congrArg Value.bool rfl)) (fun _ => rfl) (by kernel_rfl) rfl ?_
            refine RT.takeOff (i := 25) (dj := 109) rfl rfl (.inl (congrArg Value.bool rfl)) (fun _ => rfl) (by kernel_rfl) rfl ?_
            refine RT.takeOff (i := 26) (dj := 109) rfl rfl (.inl (congrArg Value.bool rfl)) (fun _ => rfl) (by kernel_rfl) rfl ?_
            refine RT.takeOff (i := 27) (dj := 109) rfl rfl (.inl (congrArg Value.bool rfl)) (fun _ => rfl) (by kernel_rfl) rfl ?_
            refine RT.takeOn (i := 28) (dj := 89) rfl rfl (congrArg Value.bool hb21) (by kernel_rfl) rfl (QO.pickT (by rfl) rfl (by rfl)) ?_
            refine RT.take (i := 29) rfl (by kernel_rfl) rfl (QO.pickT (by rfl) hb21 (by rfl)) ?_
            refine RT.take (i := 30) rfl (by kernel_rfl) rfl (QO.assign) ?_
            refine RT.done (by kernel_rfl) ?_
            refine thenC_n ?_
            refine CS.condT (by rfl) rfl ?_
            refine CS.seq ?_
            refine CS.region ?_
            refine RS.q rfl (QO.assign) ?_
            refine RS.nil ?_
            refine thenC_n ?_
            refine CS.ret ?_
            refine blockC_r ?_
            refine thenC_r ?_
            refine blockC_r ?_
            refine thenC_r ?_
            refine loopQ_r ?_
            refine blockC_r ?_
            refine thenC_r ?_
            refine retQ.mk (H' := []) (.inr rfl) (RVs.tmp (by rfl) RVs.nil) (List.nil_sublist _) ?_
            exact ⟨congrArg iv (edE_at hn hs hlen hz (by omega) (hev.trans (evE1_12 (by assumption) (by omega) (by omega) (by omega) (by omega))) (by decide)).symm, rfl⟩
          have hb23p := of_decide_eq_false hb23
          refine RT.takeOn (i := 13) (dj := 98) rfl rfl (congrArg Value.bool hb23) (by kernel_rfl) rfl (QO.fieldAddr fo134_2 (by rfl)) ?_
          refine RT.takeOn (i := 14) (dj := 98) rfl rfl (congrArg Value.bool hb23) (by kernel_rfl) rfl (QO.load ty3 (by rfl) (by repeat (first | exact List.Mem.head _ | refine List.Mem.tail _ ?_)) (by rfl)) ?_
          refine RT.takeOn (i := 15) (dj := 98) rfl rfl (congrArg Value.bool hb23) (by kernel_rfl) rfl (QO.loadB ty134 (by rfl) (by repeat (first | exact List.Mem.head _ | refine List.Mem.tail _ ?_)) (by rfl)) ?_
          refine RT.one (i := 16) (by kernel_rfl) rfl rfl ?_
          refine RS.on (dj := 98) rfl (congrArg Value.bool hb23) ?_
          refine RS.call rfl (by rfl) ok97 (by rfl) (fun w ho => long_ e _ (by omega)) ?_
          rintro _ _ ⟨rfl, rfl⟩
          refine RS.nil ⟨(by repeat (first | exact List.Sublist.refl _ | exact List.nil_sublist _ | refine List.Sublist.cons_cons _ ?_ | refine List.Sublist.cons _ ?_ | exact Sbp.refl | exact Sbp.nil | refine Sbp.cons (by repeat (first | exact Rem.head | apply Rem.tail)) ?_ | exact Sbp.app | refine Sbp.skip ?_)), ?_⟩
          refine RT.takeOn (i := 17) (dj := 98) rfl rfl (congrArg Value.bool hb23) (by kernel_rfl) rfl (QO.gtr (by rfl) (by rfl)) ?_
          refine RT.takeOn (i := 18) (dj := 89) rfl rfl (congrArg Value.bool hb21) (by kernel_rfl) rfl (QO.pickF (by rfl) hb23 (by rfl)) ?_
          refine RT.takeOn (i := 19) (dj := 89) rfl rfl (congrArg Value.bool hb21) (by kernel_rfl) rfl (QO.move) ?_
          refine RT.split (dj := 105) (by rfl) (fun hb24 => ?_) (fun hb24 => ?_)
          · have hb24p := of_decide_eq_true hb24
            refine RT.takeOff (i := 20) (dj := 105) rfl rfl (.inl (congrArg Value.bool hb24)) (fun _ => rfl) (by kernel_rfl) rfl ?_
            refine RT.takeOff (i := 21) (dj := 105) rfl rfl (.inl (congrArg Value.bool hb24)) (fun _ => rfl) (by kernel_rfl) rfl ?_
            refine RT.takeOn (i := 22) (dj := 89) rfl rfl (congrArg Value.bool hb21) (by kernel_rfl) rfl (QO.pickT (by rfl) hb24 (by rfl)) ?_
            refine RT.takeOn (i := 23) (dj := 89) rfl rfl (congrArg Value.bool hb21) (by kernel_rfl) rfl (QO.move) ?_
            refine RT.takeOff (i := 24) (dj := 109) rfl rfl (.inl (congrArg Value.bool rfl)) (fun _ => rfl) (by kernel_rfl) rfl ?_
            refine RT.takeOff (i := 25) (dj := 109) rfl rfl (.inl (congrArg Value.bool rfl)) (fun _ => rfl) (by kernel_rfl) rfl ?_
            refine RT.takeOff (i := 26) (dj := 109) rfl rfl (.inl (congrArg Value.bool rfl)) (fun _ => rfl) (by kernel_rfl) rfl ?_
            refine RT.takeOff (i := 27) (dj := 109) rfl rfl (.inl (congrArg Value.bool rfl)) (fun _ => rfl) (by kernel_rfl) rfl ?_
            refine RT.takeOn (i := 28) (dj := 89) rfl rfl (congrArg Value.bool hb21) (by kernel_rfl) rfl (QO.pickT (by rfl) rfl (by rfl)) ?_
            refine RT.take (i := 29) rfl (by kernel_rfl) rfl (QO.pickT (by rfl) hb21 (by rfl)) ?_
            refine RT.take (i := 30) rfl (by kernel_rfl) rfl (QO.assign) ?_
            refine RT.done (by kernel_rfl) ?_
            refine thenC_n ?_
            refine CS.condT (by rfl) rfl ?_
            refine CS.seq ?_
            refine CS.region ?_
            refine RS.q rfl (QO.assign) ?_
            refine RS.nil ?_
            refine thenC_n ?_
            refine CS.ret ?_
            refine blockC_r ?_
            refine thenC_r ?_
            refine blockC_r ?_
            refine thenC_r ?_
            refine loopQ_r ?_
            refine blockC_r ?_
            refine thenC_r ?_
            refine retQ.mk (H' := []) (.inr rfl) (RVs.tmp (by rfl) RVs.nil) (List.nil_sublist _) ?_
            exact ⟨congrArg iv (edE_at hn hs hlen hz (by omega) (hev.trans (evE1_12 (by assumption) (by omega) (by omega) (by omega) (by omega))) (by decide)).symm, rfl⟩
          have hb24p := of_decide_eq_false hb24
          refine RT.takeOn (i := 20) (dj := 105) rfl rfl (congrArg Value.bool hb24) (by kernel_rfl) rfl (QO.move) ?_
          refine RT.takeOn (i := 21) (dj := 105) rfl rfl (congrArg Value.bool hb24) (by kernel_rfl) rfl (QO.not (by rfl)) ?_
          refine RT.takeOn (i := 22) (dj := 89) rfl rfl (congrArg Value.bool hb21) (by kernel_rfl) rfl (QO.pickF (by rfl) hb24 (by rfl)) ?_
          refine RT.takeOn (i := 23) (dj := 89) rfl rfl (congrArg Value.bool hb21) (by kernel_rfl) rfl (QO.move) ?_
          refine RT.takeOn (i := 24) (dj := 109) rfl rfl (congrArg Value.bool (by rw [hb12] <;> rfl)) (by kernel_rfl) rfl (QO.fieldAddr fo134_5 (by rfl)) ?_
          refine RT.takeOn (i := 25) (dj := 109) rfl rfl (congrArg Value.bool (by rw [hb12] <;> rfl)) (by kernel_rfl) rfl (QO.load ty3 (by rfl) (by repeat (first | exact List.Mem.head _ | refine List.Mem.tail _ ?_)) (by rfl)) ?_
          refine RT.takeOn (i := 26) (dj := 109) rfl rfl (congrArg Value.bool (by rw [hb12] <;> rfl)) (by kernel_rfl) rfl (QO.move) ?_
          refine RT.takeOn (i := 27) (dj := 109) rfl rfl (congrArg Value.bool (by rw [hb12] <;> rfl)) (by kernel_rfl) rfl (QO.neq (by rfl) (by rfl)) ?_
          refine RT.takeOn (i := 28) (dj := 89) rfl rfl (congrArg Value.bool hb21) (by kernel_rfl) rfl (QO.pickF (by rfl) (by rw [hb12] <;> rfl) (by rfl)) ?_
          refine RT.take (i := 29) rfl (by kernel_rfl) rfl (QO.pickT (by rfl) hb21 (by rfl)) ?_
          refine RT.take (i := 30) rfl (by kernel_rfl) rfl (QO.assign) ?_
          refine RT.done (by kernel_rfl) ?_
          refine thenC_n ?_
          refine CS.cond (by rfl) (fun hb25 => ?_) (fun hb25 => ?_)
          · have hb25p := bne_iff_ne.1 hb25
            refine CS.seq ?_
            refine CS.region ?_
            refine RS.q rfl (QO.assign) ?_
            refine RS.nil ?_
            refine thenC_n ?_
            refine CS.ret ?_
            refine blockC_r ?_
            refine thenC_r ?_
            refine blockC_r ?_
            refine thenC_r ?_
            refine loopQ_r ?_
            refine blockC_r ?_
            refine thenC_r ?_
            refine retQ.mk (H' := []) (.inr rfl) (RVs.tmp (by rfl) RVs.nil) (List.nil_sublist _) ?_
            exact ⟨congrArg iv (edE_at hn hs hlen hz (by omega) (hev.trans (evE1_12 (by assumption) (by omega) (by omega) (by omega) (by omega))) (by decide)).symm, rfl⟩
          have hb25p := of_bne_false hb25
          refine CS.skip ?_
          refine blockC_n ?_
          refine thenC_n ?_
          refine CS.draw 7 rfl (by kernel_rfl) (by kernel_rfl) ?_
          refine RT.take (i := 0) rfl (by kernel_rfl) rfl (QO.fieldAddr fo134_5 (by rfl)) ?_
          refine RT.take (i := 1) rfl (by kernel_rfl) rfl (QO.load ty3 (by rfl) (by repeat (first | exact List.Mem.head _ | refine List.Mem.tail _ ?_)) (by rfl)) ?_
          refine RT.take (i := 2) rfl (by kernel_rfl) rfl (QO.loadB ty134 (by rfl) (by repeat (first | exact List.Mem.head _ | refine List.Mem.tail _ ?_)) (by rfl)) ?_
          refine RT.one (i := 3) (by kernel_rfl) rfl rfl ?_
          refine RS.call rfl (by rfl) ok97 (by rfl) (fun w ho => long_ e _ (by omega)) ?_
          rintro _ _ ⟨rfl, rfl⟩
          refine RS.nil ⟨(by repeat (first | exact List.Sublist.refl _ | exact List.nil_sublist _ | refine List.Sublist.cons_cons _ ?_ | refine List.Sublist.cons _ ?_ | exact Sbp.refl | exact Sbp.nil | refine Sbp.cons (by repeat (first | exact Rem.head | apply Rem.tail)) ?_ | exact Sbp.app | refine Sbp.skip ?_)), ?_⟩
          refine RT.take (i := 4) rfl (by kernel_rfl) rfl (QO.add (by rfl) (by rfl) (by omega) (by omega)) ?_
          refine RT.take (i := 5) rfl (by kernel_rfl) rfl (QO.assign) ?_
          refine RT.take (i := 6) rfl (by kernel_rfl) rfl (QO.assign) ?_
          refine RT.done (by kernel_rfl) ?_
          refine blockC_n ?_
          refine thenC_n ?_
          refine CS.region ?_
          refine RS.q rfl (QO.add (by rfl) (by rfl) (by omega) (by omega)) ?_
          refine RS.q rfl (QO.move) ?_
          refine RS.nil ?_
          refine loopQ_n (by intro t ht; repeat (first | with_reducible exact rfl | exact frame_puts ht (frame_mix ht) _ rfl | (refine frame_put rfl ht ?_) | (refine frame_puts ht ?_ _ rfl) | exact frame_mix ht | (refine frame_mix2 rfl ht ?_) | exact rfl)) ?_
          exact ⟨k + 1, ⟨by omega, firstE_go hz (hev.trans (evE1_0 (by assumption) (by omega) (by omega) (by omega) (by omega)))⟩, by omega, kn_cons (by rfl) (kn_cons (congrArg iv (show e.at_ + (e.out - e.inn) = endB l (k + 1) from hen.symm)) (kn_cons (congrArg Value.bool (show true = decide (0 < ((k + 1 : Nat) : Int)) from (decide_eq_true (by omega)).symm)) kn_nil)), (by repeat (first | exact List.Sublist.refl _ | exact List.nil_sublist _ | refine List.Sublist.cons_cons _ ?_ | refine List.Sublist.cons _ ?_ | exact Sbp.refl | exact Sbp.nil | refine Sbp.cons (by repeat (first | exact Rem.head | apply Rem.tail)) ?_ | exact Sbp.app | refine Sbp.skip ?_))⟩
        have hb21p := ne_of_beq_false hb21
        refine RT.takeOff (i := 4) (dj := 89) rfl rfl (.inl (congrArg Value.bool hb21)) (fun _ => rfl) (by kernel_rfl) rfl ?_
        refine RT.takeOff (i := 5) (dj := 89) rfl rfl (.inl (congrArg Value.bool hb21)) (fun _ => rfl) (by kernel_rfl) rfl ?_
        refine RT.takeOff (i := 6) (dj := 89) rfl rfl (.inl (congrArg Value.bool hb21)) (fun _ => rfl) (by kernel_rfl) rfl ?_
        refine RT.takeOff (i := 7) (dj := 89) rfl rfl (.inl (congrArg Value.bool hb21)) (fun _ => rfl) (by kernel_rfl) rfl ?_
        refine RT.takeOff (i := 8) (dj := 93) (c := true) rfl rfl (.inr rfl) (fun h => by cases h) (by kernel_rfl) rfl ?_
        refine RT.takeOff (i := 9) (dj := 93) (c := true) rfl rfl (.inr rfl) (fun h => by cases h) (by kernel_rfl) rfl ?_
        refine RT.takeOff (i := 10) (dj := 93) (c := true) rfl rfl (.inr rfl) (fun h => by cases h) (by kernel_rfl) rfl ?_
        refine RT.takeOff (i := 11) (dj := 89) rfl rfl (.inl (congrArg Value.bool hb21)) (fun _ => rfl) (by kernel_rfl) rfl ?_
        refine RT.takeOff (i := 12) (dj := 89) rfl rfl (.inl (congrArg Value.bool hb21)) (fun _ => rfl) (by kernel_rfl) rfl ?_
        refine RT.takeOff (i := 13) (dj := 98) (c := true) rfl rfl (.inr rfl) (fun h => by cases h) (by kernel_rfl) rfl ?_
        refine RT.takeOff (i := 14) (dj := 98) (c := true) rfl rfl (.inr rfl) (fun h => by cases h) (by kernel_rfl) rfl ?_
        refine RT.takeOff (i := 15) (dj := 98) (c := true) rfl rfl (.inr rfl) (fun h => by cases h) (by kernel_rfl) rfl ?_
        refine RT.one (i := 16) (by kernel_rfl) rfl rfl ?_
        refine RS.off (dj := 98) (c := true) rfl (.inr rfl) (fun h => by cases h) rfl ?_
        refine RS.nil ⟨(by repeat (first | exact List.Sublist.refl _ | exact List.nil_sublist _ | refine List.Sublist.cons_cons _ ?_ | refine List.Sublist.cons _ ?_ | exact Sbp.refl | exact Sbp.nil | refine Sbp.cons (by repeat (first | exact Rem.head | apply Rem.tail)) ?_ | exact Sbp.app | refine Sbp.skip ?_)), ?_⟩
        refine RT.takeOff (i := 17) (dj := 98) (c := true) rfl rfl (.inr rfl) (fun h => by cases h) (by kernel_rfl) rfl ?_
        refine RT.takeOff (i := 18) (dj := 89) rfl rfl (.inl (congrArg Value.bool hb21)) (fun _ => rfl) (by kernel_rfl) rfl ?_
        refine RT.takeOff (i := 19) (dj := 89) rfl rfl (.inl (congrArg Value.bool hb21)) (fun _ => rfl) (by kernel_rfl) rfl ?_
        refine RT.takeOff (i := 20) (dj := 105) (c := true) rfl rfl (.inr rfl) (fun h => by cases h) (by kernel_rfl) rfl ?_
        refine RT.takeOff (i := 21) (dj := 105) (c := true) rfl rfl (.inr rfl) (fun h => by cases h) (by kernel_rfl) rfl ?_
        refine RT.takeOff (i := 22) (dj := 89) rfl rfl (.inl (congrArg Value.bool hb21)) (fun _ => rfl) (by kernel_rfl) rfl ?_
        refine RT.takeOff (i := 23) (dj := 89) rfl rfl (.inl (congrArg Value.bool hb21)) (fun _ => rfl) (by kernel_rfl) rfl ?_
        refine RT.takeOff (i := 24) (dj := 109) (c := true) rfl rfl (.inr rfl) (fun h => by cases h) (by kernel_rfl) rfl ?_
        refine RT.takeOff (i := 25) (dj := 109) (c := true) rfl rfl (.inr rfl) (fun h => by cases h) (by kernel_rfl) rfl ?_
        refine RT.takeOff (i := 26) (dj := 109) (c := true) rfl rfl (.inr rfl) (fun h => by cases h) (by kernel_rfl) rfl ?_
        refine RT.takeOff (i := 27) (dj := 109) (c := true) rfl rfl (.inr rfl) (fun h => by cases h) (by kernel_rfl) rfl ?_
        refine RT.takeOff (i := 28) (dj := 89) rfl rfl (.inl (congrArg Value.bool hb21)) (fun _ => rfl) (by kernel_rfl) rfl ?_
        refine RT.take (i := 29) rfl (by kernel_rfl) rfl (QO.pickF (by rfl) hb21 (by rfl)) ?_
        refine RT.take (i := 30) rfl (by kernel_rfl) rfl (QO.assign) ?_
        refine RT.done (by kernel_rfl) ?_
        refine thenC_n ?_
        refine CS.condF (by rfl) rfl ?_
        refine CS.skip ?_
        refine blockC_n ?_
        refine thenC_n ?_
        refine CS.draw 7 rfl (by kernel_rfl) (by kernel_rfl) ?_
        refine RT.take (i := 0) rfl (by kernel_rfl) rfl (QO.fieldAddr fo134_5 (by rfl)) ?_
        refine RT.take (i := 1) rfl (by kernel_rfl) rfl (QO.load ty3 (by rfl) (by repeat (first | exact List.Mem.head _ | refine List.Mem.tail _ ?_)) (by rfl)) ?_
        refine RT.take (i := 2) rfl (by kernel_rfl) rfl (QO.loadB ty134 (by rfl) (by repeat (first | exact List.Mem.head _ | refine List.Mem.tail _ ?_)) (by rfl)) ?_
        refine RT.one (i := 3) (by kernel_rfl) rfl rfl ?_
        refine RS.call rfl (by rfl) ok97 (by rfl) (fun w ho => long_ e _ (by omega)) ?_
        rintro _ _ ⟨rfl, rfl⟩
        refine RS.nil ⟨(by repeat (first | exact List.Sublist.refl _ | exact List.nil_sublist _ | refine List.Sublist.cons_cons _ ?_ | refine List.Sublist.cons _ ?_ | exact Sbp.refl | exact Sbp.nil | refine Sbp.cons (by repeat (first | exact Rem.head | apply Rem.tail)) ?_ | exact Sbp.app | refine Sbp.skip ?_)), ?_⟩
        refine RT.take (i := 4) rfl (by kernel_rfl) rfl (QO.add (by rfl) (by rfl) (by omega) (by omega)) ?_
        refine RT.take (i := 5) rfl (by kernel_rfl) rfl (QO.assign) ?_
        refine RT.take (i := 6) rfl (by kernel_rfl) rfl (QO.assign) ?_
        refine RT.done (by kernel_rfl) ?_
        refine blockC_n ?_
        refine thenC_n ?_
        refine CS.region ?_
        refine RS.q rfl (QO.add (by rfl) (by rfl) (by omega) (by omega)) ?_
        refine RS.q rfl (QO.move) ?_
        refine RS.nil ?_
        refine loopQ_n (by intro t ht; repeat (first | with_reducible exact rfl | exact frame_puts ht (frame_mix ht) _ rfl | (refine frame_put rfl ht ?_) | (refine frame_puts ht ?_ _ rfl) | exact frame_mix ht | (refine frame_mix2 rfl ht ?_) | exact rfl)) ?_
        exact ⟨k + 1, ⟨by omega, firstE_go hz (hev.trans (evE1_0 (by assumption) (by omega) (by omega) (by omega) (by omega)))⟩, by omega, kn_cons (by rfl) (kn_cons (congrArg iv (show e.at_ + (e.out - e.inn) = endB l (k + 1) from hen.symm)) (kn_cons (congrArg Value.bool (show true = decide (0 < ((k + 1 : Nat) : Int)) from (decide_eq_true (by omega)).symm)) kn_nil)), (by repeat (first | exact List.Sublist.refl _ | exact List.nil_sublist _ | refine List.Sublist.cons_cons _ ?_ | refine List.Sublist.cons _ ?_ | exact Sbp.refl | exact Sbp.nil | refine Sbp.cons (by repeat (first | exact Rem.head | apply Rem.tail)) ?_ | exact Sbp.app | refine Sbp.skip ?_))⟩
      have hb12p := of_decide_eq_false hb12
      refine RS.off (dj := 71) rfl (.inl (congrArg Value.bool hb12)) (fun _ => rfl) rfl ?_
      refine RS.off (dj := 71) rfl (.inl (congrArg Value.bool hb12)) (fun _ => rfl) rfl ?_
      refine RS.off (dj := 71) rfl (.inl (congrArg Value.bool hb12)) (fun _ => rfl) rfl ?_
      refine RS.off (dj := 71) rfl (.inl (congrArg Value.bool hb12)) (fun _ => rfl) rfl ?_
      refine RS.q rfl (QO.pickF (by rfl) hb12 (by rfl)) ?_
      refine RS.q rfl (QO.assign) ?_
      refine RS.nil ?_
      refine thenC_n ?_
      refine CS.condF (by rfl) rfl ?_
      refine CS.seq ?_
      refine CS.seq ?_
      refine CS.region ?_
      refine RS.q rfl (QO.fieldAddr fo134_1 (by rfl)) ?_
      refine RS.q rfl (QO.load ty3 (by rfl) (by repeat (first | exact List.Mem.head _ | refine List.Mem.tail _ ?_)) (by rfl)) ?_
      refine RS.q rfl (QO.eql (by rfl) (by rfl)) ?_
      refine RS.q rfl (QO.move) ?_
      refine RS.split (dj := 81) (by rfl) (fun hb26 => ?_) (fun hb26 => ?_)
      · have hb26p := eq_of_beq hb26
        refine RS.on (dj := 81) rfl (congrArg Value.bool hb26) ?_
        refine RS.q rfl (QO.fieldAddr fo134_2 (by rfl)) ?_
        refine RS.on (dj := 81) rfl (congrArg Value.bool hb26) ?_
        refine RS.q rfl (QO.load ty3 (by rfl) (by repeat (first | exact List.Mem.head _ | refine List.Mem.tail _ ?_)) (by rfl)) ?_
        refine RS.on (dj := 81) rfl (congrArg Value.bool hb26) ?_
        refine RS.q rfl (QO.neq (by rfl) (by rfl)) ?_
        refine RS.q rfl (QO.pickT (by rfl) hb26 (by rfl)) ?_
        refine RS.q rfl (QO.assign) ?_
        refine RS.nil ?_
        refine thenC_n ?_
        refine CS.cond (by rfl) (fun hb27 => ?_) (fun hb27 => ?_)
        · have hb27p := bne_iff_ne.1 hb27
          refine CS.skip ?_
          refine thenC_n ?_
          refine CS.condT (by rfl) hb27 ?_
          refine CS.seq ?_
          refine CS.region ?_
          refine RS.q rfl (QO.assign) ?_
          refine RS.nil ?_
          refine thenC_n ?_
          refine CS.ret ?_
          refine blockC_r ?_
          refine thenC_r ?_
          refine blockC_r ?_
          refine thenC_r ?_
          refine loopQ_r ?_
          refine blockC_r ?_
          refine thenC_r ?_
          refine retQ.mk (H' := []) (.inr rfl) (RVs.tmp (by rfl) RVs.nil) (List.nil_sublist _) ?_
          exact ⟨congrArg iv (edE_at hn hs hlen hz (by omega) (hev.trans (evE1_12 (by assumption) (by omega) (by omega) (by omega) (by omega))) (by decide)).symm, rfl⟩
        have hb27p := of_bne_false hb27
        refine CS.draw 31 rfl (by kernel_rfl) (by kernel_rfl) ?_
        refine RT.take (i := 0) rfl (by kernel_rfl) rfl (QO.fieldAddr fo134_1 (by rfl)) ?_
        refine RT.take (i := 1) rfl (by kernel_rfl) rfl (QO.load ty3 (by rfl) (by repeat (first | exact List.Mem.head _ | refine List.Mem.tail _ ?_)) (by rfl)) ?_
        refine RT.take (i := 2) rfl (by kernel_rfl) rfl (QO.eql (by rfl) (by rfl)) ?_
        refine RT.take (i := 3) rfl (by kernel_rfl) rfl (QO.move) ?_
        refine RT.split (dj := 89) (by rfl) (fun hb28 => ?_) (fun hb28 => ?_)
        · have hb28p := eq_of_beq hb28
          refine RT.takeOn (i := 4) (dj := 89) rfl rfl (congrArg Value.bool hb28) (by kernel_rfl) rfl (QO.fieldAddr fo134_2 (by rfl)) ?_
          refine RT.takeOn (i := 5) (dj := 89) rfl rfl (congrArg Value.bool hb28) (by kernel_rfl) rfl (QO.load ty3 (by rfl) (by repeat (first | exact List.Mem.head _ | refine List.Mem.tail _ ?_)) (by rfl)) ?_
          refine RT.takeOn (i := 6) (dj := 89) rfl rfl (congrArg Value.bool hb28) (by kernel_rfl) rfl (QO.lss (by rfl) (by rfl)) ?_
          refine RT.takeOn (i := 7) (dj := 89) rfl rfl (congrArg Value.bool hb28) (by kernel_rfl) rfl (QO.move) ?_
          refine RT.split (dj := 93) (by rfl) (fun hb29 => ?_) (fun hb29 => ?_)
          · have hb29p := of_decide_eq_true hb29
            refine RT.takeOff (i := 8) (dj := 93) rfl rfl (.inl (congrArg Value.bool hb29)) (fun _ => rfl) (by kernel_rfl) rfl ?_
            refine RT.takeOff (i := 9) (dj := 93) rfl rfl (.inl (congrArg Value.bool hb29)) (fun _ => rfl) (by kernel_rfl) rfl ?_
            refine RT.takeOff (i := 10) (dj := 93) rfl rfl (.inl (congrArg Value.bool hb29)) (fun _ => rfl) (by kernel_rfl) rfl ?_
            refine RT.takeOn (i := 11) (dj := 89) rfl rfl (congrArg Value.bool hb28) (by kernel_rfl) rfl (QO.pickT (by rfl) hb29 (by rfl)) ?_
            refine RT.takeOn (i := 12) (dj := 89) rfl rfl (congrArg Value.bool hb28) (by kernel_rfl) rfl (QO.move) ?_
            refine RT.takeOff (i := 13) (dj := 98) rfl rfl (.inl (congrArg Value.bool rfl)) (fun _ => rfl) (by kernel_rfl) rfl ?_
            refine RT.takeOff (i := 14) (dj := 98) rfl rfl (.inl (congrArg Value.bool rfl)) (fun _ => rfl) (by kernel_rfl) rfl ?_
            refine RT.takeOff (i := 15) (dj := 98) rfl rfl (.inl (congrArg Value.bool rfl)) (fun _ => rfl) (by kernel_rfl) rfl ?_
            refine RT.one (i := 16) (by kernel_rfl) rfl rfl ?_
            refine RS.off (dj := 98) rfl (.inl (congrArg Value.bool rfl)) (fun _ => rfl) rfl ?_
            refine RS.nil ⟨(by repeat (first | exact List.Sublist.refl _ | exact List.nil_sublist _ | refine List.Sublist.cons_cons _ ?_ | refine List.Sublist.cons _ ?_ | exact Sbp.refl | exact Sbp.nil | refine Sbp.cons (by repeat (first | exact Rem.head | apply Rem.tail)) ?_ | exact Sbp.app | refine Sbp.skip ?_)), ?_⟩
            refine RT.takeOff (i := 17) (dj := 98) rfl rfl (.inl (congrArg Value.bool rfl)) (fun _ => rfl) (by kernel_rfl) rfl ?_
            refine RT.takeOn (i := 18) (dj := 89) rfl rfl (congrArg Value.bool hb28) (by kernel_rfl) rfl (QO.pickT (by rfl) rfl (by rfl)) ?_
            refine RT.takeOn (i := 19) (dj := 89) rfl rfl (congrArg Value.bool hb28) (by kernel_rfl) rfl (QO.move) ?_
            refine RT.takeOff (i := 20) (dj := 105) rfl rfl (.inl (congrArg Value.bool rfl)) (fun _ => rfl) (by kernel_rfl) rfl ?_
            refine RT.takeOff (i := 21) (dj := 105) rfl rfl (.inl (congrArg Value.bool rfl)) (fun _ => rfl) (by kernel_rfl) rfl ?_
            refine RT.takeOn (i := 22) (dj := 89) rfl rfl (congrArg Value.bool hb28) (by kernel_rfl) rfl (QO.pickT (by rfl) rfl (by rfl)) ?_
            refine RT.takeOn (i := 23) (dj := 89) rfl rfl (congrArg Value.bool hb28) (by kernel_rfl) rfl (QO.move) ?_
            refine RT.takeOff (i := 24) (dj := 109) rfl rfl (.inl (congrArg Value.bool rfl)) (fun _ => rfl) (by kernel_rfl) rfl ?_
            refine RT.takeOff (i := 25) (dj := 109) rfl rfl (.inl (congrArg Value.bool rfl)) (fun _ => rfl) (by kernel_rfl) rfl ?_
            refine RT.takeOff (i := 26) (dj := 109) rfl rfl (.inl (congrArg Value.bool rfl)) (fun _ => rfl) (by kernel_rfl) rfl ?_
            refine RT.takeOff (i := 27) (dj := 109) rfl rfl (.inl (congrArg Value.bool rfl)) (fun _ => rfl) (by kernel_rfl) rfl ?_
            refine RT.takeOn (i := 28) (dj := 89) rfl rfl (congrArg Value.bool hb28) (by kernel_rfl) rfl (QO.pickT (by rfl) rfl (by rfl)) ?_
            refine RT.take (i := 29) rfl (by kernel_rfl) rfl (QO.pickT (by rfl) hb28 (by rfl)) ?_
            refine RT.take (i := 30) rfl (by kernel_rfl) rfl (QO.assign) ?_
            refine RT.done (by kernel_rfl) ?_
            refine thenC_n ?_
            refine CS.condT (by rfl) rfl ?_
            refine CS.seq ?_
            refine CS.region ?_
            refine RS.q rfl (QO.assign) ?_
            refine RS.nil ?_
            refine thenC_n ?_
            refine CS.ret ?_
            refine blockC_r ?_
            refine thenC_r ?_
            refine blockC_r ?_
            refine thenC_r ?_
            refine loopQ_r ?_
            refine blockC_r ?_
            refine thenC_r ?_
            refine retQ.mk (H' := []) (.inr rfl) (RVs.tmp (by rfl) RVs.nil) (List.nil_sublist _) ?_
            exact ⟨congrArg iv (edE_at hn hs hlen hz (by omega) (hev.trans (evE1_12 (by assumption) (by omega) (by omega) (by omega) (by omega))) (by decide)).symm, rfl⟩
          have hb29p := of_decide_eq_false hb29
          refine RT.takeOn (i := 8) (dj := 93) rfl rfl (congrArg Value.bool hb29) (by kernel_rfl) rfl (QO.fieldAddr fo134_2 (by rfl)) ?_
          refine RT.takeOn (i := 9) (dj := 93) rfl rfl (congrArg Value.bool hb29) (by kernel_rfl) rfl (QO.load ty3 (by rfl) (by repeat (first | exact List.Mem.head _ | refine List.Mem.tail _ ?_)) (by rfl)) ?_
          refine RT.takeOn (i := 10) (dj := 93) rfl rfl (congrArg Value.bool hb29) (by kernel_rfl) rfl (QO.gtr (by rfl) (by rfl)) ?_
          refine RT.takeOn (i := 11) (dj := 89) rfl rfl (congrArg Value.bool hb28) (by kernel_rfl) rfl (QO.pickF (by rfl) hb29 (by rfl)) ?_
          refine RT.takeOn (i := 12) (dj := 89) rfl rfl (congrArg Value.bool hb28) (by kernel_rfl) rfl (QO.move) ?_
          refine RT.split (dj := 98) (by rfl) (fun hb30 => ?_) (fun hb30 => ?_)
          · have hb30p := of_decide_eq_true hb30
            refine RT.takeOff (i := 13) (dj := 98) rfl rfl (.inl (congrArg Value.bool hb30)) (fun _ => rfl) (by kernel_rfl) rfl ?_
            refine RT.takeOff (i := 14) (dj := 98) rfl rfl (.inl (congrArg Value.bool hb30)) (fun _ => rfl) (by kernel_rfl) rfl ?_
            refine RT.takeOff (i := 15) (dj := 98) rfl rfl (.inl (congrArg Value.bool hb30)) (fun _ => rfl) (by kernel_rfl) rfl ?_
            refine RT.one (i := 16) (by kernel_rfl) rfl rfl ?_
            refine RS.off (dj := 98) rfl (.inl (congrArg Value.bool hb30)) (fun _ => rfl) rfl ?_
            refine RS.nil ⟨(by repeat (first | exact List.Sublist.refl _ | exact List.nil_sublist _ | refine List.Sublist.cons_cons _ ?_ | refine List.Sublist.cons _ ?_ | exact Sbp.refl | exact Sbp.nil | refine Sbp.cons (by repeat (first | exact Rem.head | apply Rem.tail)) ?_ | exact Sbp.app | refine Sbp.skip ?_)), ?_⟩
            refine RT.takeOff (i := 17) (dj := 98) rfl rfl (.inl (congrArg Value.bool hb30)) (fun _ => rfl) (by kernel_rfl) rfl ?_
            refine RT.takeOn (i := 18) (dj := 89) rfl rfl (congrArg Value.bool hb28) (by kernel_rfl) rfl (QO.pickT (by rfl) hb30 (by rfl)) ?_
            refine RT.takeOn (i := 19) (dj := 89) rfl rfl (congrArg Value.bool hb28) (by kernel_rfl) rfl (QO.move) ?_
            refine RT.takeOff (i := 20) (dj := 105) rfl rfl (.inl (congrArg Value.bool rfl)) (fun _ => rfl) (by kernel_rfl) rfl ?_
            refine RT.takeOff (i := 21) (dj := 105) rfl rfl (.inl (congrArg Value.bool rfl)) (fun _ => rfl) (by kernel_rfl) rfl ?_
            refine RT.takeOn (i := 22) (dj := 89) rfl rfl (congrArg Value.bool hb28) (by kernel_rfl) rfl (QO.pickT (by rfl) rfl (by rfl)) ?_
            refine RT.takeOn (i := 23) (dj := 89) rfl rfl (congrArg Value.bool hb28) (by kernel_rfl) rfl (QO.move) ?_
            refine RT.takeOff (i := 24) (dj := 109) rfl rfl (.inl (congrArg Value.bool rfl)) (fun _ => rfl) (by kernel_rfl) rfl ?_
            refine RT.takeOff (i := 25) (dj := 109) rfl rfl (.inl (congrArg Value.bool rfl)) (fun _ => rfl) (by kernel_rfl) rfl ?_
            refine RT.takeOff (i := 26) (dj := 109) rfl rfl (.inl (congrArg Value.bool rfl)) (fun _ => rfl) (by kernel_rfl) rfl ?_
            refine RT.takeOff (i := 27) (dj := 109) rfl rfl (.inl (congrArg Value.bool rfl)) (fun _ => rfl) (by kernel_rfl) rfl ?_
            refine RT.takeOn (i := 28) (dj := 89) rfl rfl (congrArg Value.bool hb28) (by kernel_rfl) rfl (QO.pickT (by rfl) rfl (by rfl)) ?_
            refine RT.take (i := 29) rfl (by kernel_rfl) rfl (QO.pickT (by rfl) hb28 (by rfl)) ?_
            refine RT.take (i := 30) rfl (by kernel_rfl) rfl (QO.assign) ?_
            refine RT.done (by kernel_rfl) ?_
            refine thenC_n ?_
            refine CS.condT (by rfl) rfl ?_
            refine CS.seq ?_
            refine CS.region ?_
            refine RS.q rfl (QO.assign) ?_
            refine RS.nil ?_
            refine thenC_n ?_
            refine CS.ret ?_
            refine blockC_r ?_
            refine thenC_r ?_
            refine blockC_r ?_
            refine thenC_r ?_
            refine loopQ_r ?_
            refine blockC_r ?_
            refine thenC_r ?_
            refine retQ.mk (H' := []) (.inr rfl) (RVs.tmp (by rfl) RVs.nil) (List.nil_sublist _) ?_
            exact ⟨congrArg iv (edE_at hn hs hlen hz (by omega) (hev.trans (evE1_12 (by assumption) (by omega) (by omega) (by omega) (by omega))) (by decide)).symm, rfl⟩
          have hb30p := of_decide_eq_false hb30
          refine RT.takeOn (i := 13) (dj := 98) rfl rfl (congrArg Value.bool hb30) (by kernel_rfl) rfl (QO.fieldAddr fo134_2 (by rfl)) ?_
          refine RT.takeOn (i := 14) (dj := 98) rfl rfl (congrArg Value.bool hb30) (by kernel_rfl) rfl (QO.load ty3 (by rfl) (by repeat (first | exact List.Mem.head _ | refine List.Mem.tail _ ?_)) (by rfl)) ?_
          refine RT.takeOn (i := 15) (dj := 98) rfl rfl (congrArg Value.bool hb30) (by kernel_rfl) rfl (QO.loadB ty134 (by rfl) (by repeat (first | exact List.Mem.head _ | refine List.Mem.tail _ ?_)) (by rfl)) ?_
          refine RT.one (i := 16) (by kernel_rfl) rfl rfl ?_
          refine RS.on (dj := 98) rfl (congrArg Value.bool hb30) ?_
          refine RS.call rfl (by rfl) ok97 (by rfl) (fun w ho => long_ e _ (by omega)) ?_
          rintro _ _ ⟨rfl, rfl⟩
          refine RS.nil ⟨(by repeat (first | exact List.Sublist.refl _ | exact List.nil_sublist _ | refine List.Sublist.cons_cons _ ?_ | refine List.Sublist.cons _ ?_ | exact Sbp.refl | exact Sbp.nil | refine Sbp.cons (by repeat (first | exact Rem.head | apply Rem.tail)) ?_ | exact Sbp.app | refine Sbp.skip ?_)), ?_⟩
          refine RT.takeOn (i := 17) (dj := 98) rfl rfl (congrArg Value.bool hb30) (by kernel_rfl) rfl (QO.gtr (by rfl) (by rfl)) ?_
          refine RT.takeOn (i := 18) (dj := 89) rfl rfl (congrArg Value.bool hb28) (by kernel_rfl) rfl (QO.pickF (by rfl) hb30 (by rfl)) ?_
          refine RT.takeOn (i := 19) (dj := 89) rfl rfl (congrArg Value.bool hb28) (by kernel_rfl) rfl (QO.move) ?_
          refine RT.split (dj := 105) (by rfl) (fun hb31 => ?_) (fun hb31 => ?_)
          · have hb31p := of_decide_eq_true hb31
            refine RT.takeOff (i := 20) (dj := 105) rfl rfl (.inl (congrArg Value.bool hb31)) (fun _ => rfl) (by kernel_rfl) rfl ?_
            refine RT.takeOff (i := 21) (dj := 105) rfl rfl (.inl (congrArg Value.bool hb31)) (fun _ => rfl) (by kernel_rfl) rfl ?_
            refine RT.takeOn (i := 22) (dj := 89) rfl rfl (congrArg Value.bool hb28) (by kernel_rfl) rfl (QO.pickT (by rfl) hb31 (by rfl)) ?_
            refine RT.takeOn (i := 23) (dj := 89) rfl rfl (congrArg Value.bool hb28) (by kernel_rfl) rfl (QO.move) ?_
            refine RT.takeOff (i := 24) (dj := 109) rfl rfl (.inl (congrArg Value.bool rfl)) (fun _ => rfl) (by kernel_rfl) rfl ?_
            refine RT.takeOff (i := 25) (dj := 109) rfl rfl (.inl (congrArg Value.bool rfl)) (fun _ => rfl) (by kernel_rfl) rfl ?_
            refine RT.takeOff (i := 26) (dj := 109) rfl rfl (.inl (congrArg Value.bool rfl)) (fun _ => rfl) (by kernel_rfl) rfl ?_
            refine RT.takeOff (i := 27) (dj := 109) rfl rfl (.inl (congrArg Value.bool rfl)) (fun _ => rfl) (by kernel_rfl) rfl ?_
            refine RT.takeOn (i := 28) (dj := 89) rfl rfl (congrArg Value.bool hb28) (by kernel_rfl) rfl (QO.pickT (by rfl) rfl (by rfl)) ?_
            refine RT.take (i := 29) rfl (by kernel_rfl) rfl (QO.pickT (by rfl) hb28 (by rfl)) ?_
            refine RT.take (i := 30) rfl (by kernel_rfl) rfl (QO.assign) ?_
            refine RT.done (by kernel_rfl) ?_
            refine thenC_n ?_
            refine CS.condT (by rfl) rfl ?_
            refine CS.seq ?_
            refine CS.region ?_
            refine RS.q rfl (QO.assign) ?_
            refine RS.nil ?_
            refine thenC_n ?_
            refine CS.ret ?_
            refine blockC_r ?_
            refine thenC_r ?_
            refine blockC_r ?_
            refine thenC_r ?_
            refine loopQ_r ?_
            refine blockC_r ?_
            refine thenC_r ?_
            refine retQ.mk (H' := []) (.inr rfl) (RVs.tmp (by rfl) RVs.nil) (List.nil_sublist _) ?_
            exact ⟨congrArg iv (edE_at hn hs hlen hz (by omega) (hev.trans (evE1_12 (by assumption) (by omega) (by omega) (by omega) (by omega))) (by decide)).symm, rfl⟩
          have hb31p := of_decide_eq_false hb31
          refine RT.takeOn (i := 20) (dj := 105) rfl rfl (congrArg Value.bool hb31) (by kernel_rfl) rfl (QO.move) ?_
          refine RT.takeOn (i := 21) (dj := 105) rfl rfl (congrArg Value.bool hb31) (by kernel_rfl) rfl (QO.not (by rfl)) ?_
          refine RT.takeOn (i := 22) (dj := 89) rfl rfl (congrArg Value.bool hb28) (by kernel_rfl) rfl (QO.pickF (by rfl) hb31 (by rfl)) ?_
          refine RT.takeOn (i := 23) (dj := 89) rfl rfl (congrArg Value.bool hb28) (by kernel_rfl) rfl (QO.move) ?_
          refine RT.takeOff (i := 24) (dj := 109) rfl rfl (.inl (congrArg Value.bool (by rw [hb12] <;> rfl))) (fun _ => rfl) (by kernel_rfl) rfl ?_
          refine RT.takeOff (i := 25) (dj := 109) rfl rfl (.inl (congrArg Value.bool (by rw [hb12] <;> rfl))) (fun _ => rfl) (by kernel_rfl) rfl ?_
          refine RT.takeOff (i := 26) (dj := 109) rfl rfl (.inl (congrArg Value.bool (by rw [hb12] <;> rfl))) (fun _ => rfl) (by kernel_rfl) rfl ?_
          refine RT.takeOff (i := 27) (dj := 109) rfl rfl (.inl (congrArg Value.bool (by rw [hb12] <;> rfl))) (fun _ => rfl) (by kernel_rfl) rfl ?_
          refine RT.takeOn (i := 28) (dj := 89) rfl rfl (congrArg Value.bool hb28) (by kernel_rfl) rfl (QO.pickT (by rfl) (by rw [hb12] <;> rfl) (by rfl)) ?_
          refine RT.take (i := 29) rfl (by kernel_rfl) rfl (QO.pickT (by rfl) hb28 (by rfl)) ?_
          refine RT.take (i := 30) rfl (by kernel_rfl) rfl (QO.assign) ?_
          refine RT.done (by kernel_rfl) ?_
          refine thenC_n ?_
          refine CS.condT (by rfl) rfl ?_
          refine CS.seq ?_
          refine CS.region ?_
          refine RS.q rfl (QO.assign) ?_
          refine RS.nil ?_
          refine thenC_n ?_
          refine CS.ret ?_
          refine blockC_r ?_
          refine thenC_r ?_
          refine blockC_r ?_
          refine thenC_r ?_
          refine loopQ_r ?_
          refine blockC_r ?_
          refine thenC_r ?_
          refine retQ.mk (H' := []) (.inr rfl) (RVs.tmp (by rfl) RVs.nil) (List.nil_sublist _) ?_
          exact ⟨congrArg iv (edE_at hn hs hlen hz (by omega) (hev.trans (evE1_12 (by assumption) (by omega) (by omega) (by omega) (by omega))) (by decide)).symm, rfl⟩
        have hb28p := ne_of_beq_false hb28
        refine RT.takeOff (i := 4) (dj := 89) rfl rfl (.inl (congrArg Value.bool hb28)) (fun _ => rfl) (by kernel_rfl) rfl ?_
        refine RT.takeOff (i := 5) (dj := 89) rfl rfl (.inl (congrArg Value.bool hb28)) (fun _ => rfl) (by kernel_rfl) rfl ?_
        refine RT.takeOff (i := 6) (dj := 89) rfl rfl (.inl (congrArg Value.bool hb28)) (fun _ => rfl) (by kernel_rfl) rfl ?_
        refine RT.takeOff (i := 7) (dj := 89) rfl rfl (.inl (congrArg Value.bool hb28)) (fun _ => rfl) (by kernel_rfl) rfl ?_
        refine RT.takeOff (i := 8) (dj := 93) (c := true) rfl rfl (.inr rfl) (fun h => by cases h) (by kernel_rfl) rfl ?_
        refine RT.takeOff (i := 9) (dj := 93) (c := true) rfl rfl (.inr rfl) (fun h => by cases h) (by kernel_rfl) rfl ?_
        refine RT.takeOff (i := 10) (dj := 93) (c := true) rfl rfl (.inr rfl) (fun h => by cases h) (by kernel_rfl) rfl ?_
        refine RT.takeOff (i := 11) (dj := 89) rfl rfl (.inl (congrArg Value.bool hb28)) (fun _ => rfl) (by kernel_rfl) rfl ?_
        refine RT.takeOff (i := 12) (dj := 89) rfl rfl (.inl (congrArg Value.bool hb28)) (fun _ => rfl) (by kernel_rfl) rfl ?_
        refine RT.takeOff (i := 13) (dj := 98) (c := true) rfl rfl (.inr rfl) (fun h => by cases h) (by kernel_rfl) rfl ?_
        refine RT.takeOff (i := 14) (dj := 98) (c := true) rfl rfl (.inr rfl) (fun h => by cases h) (by kernel_rfl) rfl ?_
        refine RT.takeOff (i := 15) (dj := 98) (c := true) rfl rfl (.inr rfl) (fun h => by cases h) (by kernel_rfl) rfl ?_
        refine RT.one (i := 16) (by kernel_rfl) rfl rfl ?_
        refine RS.off (dj := 98) (c := true) rfl (.inr rfl) (fun h => by cases h) rfl ?_
        refine RS.nil ⟨(by repeat (first | exact List.Sublist.refl _ | exact List.nil_sublist _ | refine List.Sublist.cons_cons _ ?_ | refine List.Sublist.cons _ ?_ | exact Sbp.refl | exact Sbp.nil | refine Sbp.cons (by repeat (first | exact Rem.head | apply Rem.tail)) ?_ | exact Sbp.app | refine Sbp.skip ?_)), ?_⟩
        refine RT.takeOff (i := 17) (dj := 98) (c := true) rfl rfl (.inr rfl) (fun h => by cases h) (by kernel_rfl) rfl ?_
        refine RT.takeOff (i := 18) (dj := 89) rfl rfl (.inl (congrArg Value.bool hb28)) (fun _ => rfl) (by kernel_rfl) rfl ?_
        refine RT.takeOff (i := 19) (dj := 89) rfl rfl (.inl (congrArg Value.bool hb28)) (fun _ => rfl) (by kernel_rfl) rfl ?_
        refine RT.takeOff (i := 20) (dj := 105) (c := true) rfl rfl (.inr rfl) (fun h => by cases h) (by kernel_rfl) rfl ?_
        refine RT.takeOff (i := 21) (dj := 105) (c := true) rfl rfl (.inr rfl) (fun h => by cases h) (by kernel_rfl) rfl ?_
        refine RT.takeOff (i := 22) (dj := 89) rfl rfl (.inl (congrArg Value.bool hb28)) (fun _ => rfl) (by kernel_rfl) rfl ?_
        refine RT.takeOff (i := 23) (dj := 89) rfl rfl (.inl (congrArg Value.bool hb28)) (fun _ => rfl) (by kernel_rfl) rfl ?_
        refine RT.takeOff (i := 24) (dj := 109) (c := true) rfl rfl (.inr rfl) (fun h => by cases h) (by kernel_rfl) rfl ?_
        refine RT.takeOff (i := 25) (dj := 109) (c := true) rfl rfl (.inr rfl) (fun h => by cases h) (by kernel_rfl) rfl ?_
        refine RT.takeOff (i := 26) (dj := 109) (c := true) rfl rfl (.inr rfl) (fun h => by cases h) (by kernel_rfl) rfl ?_
        refine RT.takeOff (i := 27) (dj := 109) (c := true) rfl rfl (.inr rfl) (fun h => by cases h) (by kernel_rfl) rfl ?_
        refine RT.takeOff (i := 28) (dj := 89) rfl rfl (.inl (congrArg Value.bool hb28)) (fun _ => rfl) (by kernel_rfl) rfl ?_
        refine RT.take (i := 29) rfl (by kernel_rfl) rfl (QO.pickF (by rfl) hb28 (by rfl)) ?_
        refine RT.take (i := 30) rfl (by kernel_rfl) rfl (QO.assign) ?_
        refine RT.done (by kernel_rfl) ?_
        refine thenC_n ?_
        refine CS.condF (by rfl) rfl ?_
        refine CS.skip ?_
        refine blockC_n ?_
        refine thenC_n ?_
        refine CS.draw 7 rfl (by kernel_rfl) (by kernel_rfl) ?_
        refine RT.take (i := 0) rfl (by kernel_rfl) rfl (QO.fieldAddr fo134_5 (by rfl)) ?_
        refine RT.take (i := 1) rfl (by kernel_rfl) rfl (QO.load ty3 (by rfl) (by repeat (first | exact List.Mem.head _ | refine List.Mem.tail _ ?_)) (by rfl)) ?_
        refine RT.take (i := 2) rfl (by kernel_rfl) rfl (QO.loadB ty134 (by rfl) (by repeat (first | exact List.Mem.head _ | refine List.Mem.tail _ ?_)) (by rfl)) ?_
        refine RT.one (i := 3) (by kernel_rfl) rfl rfl ?_
        refine RS.call rfl (by rfl) ok97 (by rfl) (fun w ho => long_ e _ (by omega)) ?_
        rintro _ _ ⟨rfl, rfl⟩
        refine RS.nil ⟨(by repeat (first | exact List.Sublist.refl _ | exact List.nil_sublist _ | refine List.Sublist.cons_cons _ ?_ | refine List.Sublist.cons _ ?_ | exact Sbp.refl | exact Sbp.nil | refine Sbp.cons (by repeat (first | exact Rem.head | apply Rem.tail)) ?_ | exact Sbp.app | refine Sbp.skip ?_)), ?_⟩
        refine RT.take (i := 4) rfl (by kernel_rfl) rfl (QO.add (by rfl) (by rfl) (by omega) (by omega)) ?_
        refine RT.take (i := 5) rfl (by kernel_rfl) rfl (QO.assign) ?_
        refine RT.take (i := 6) rfl (by kernel_rfl) rfl (QO.assign) ?_
        refine RT.done (by kernel_rfl) ?_
        refine blockC_n ?_
        refine thenC_n ?_
        refine CS.region ?_
        refine RS.q rfl (QO.add (by rfl) (by rfl) (by omega) (by omega)) ?_
        refine RS.q rfl (QO.move) ?_
        refine RS.nil ?_
        refine loopQ_n (by intro t ht; repeat (first | with_reducible exact rfl | exact frame_puts ht (frame_mix ht) _ rfl | (refine frame_put rfl ht ?_) | (refine frame_puts ht ?_ _ rfl) | exact frame_mix ht | (refine frame_mix2 rfl ht ?_) | exact rfl)) ?_
        exact ⟨k + 1, ⟨by omega, firstE_go hz (hev.trans (evE1_0 (by assumption) (by omega) (by omega) (by omega) (by omega)))⟩, by omega, kn_cons (by rfl) (kn_cons (congrArg iv (show e.at_ + (e.out - e.inn) = endB l (k + 1) from hen.symm)) (kn_cons (congrArg Value.bool (show true = decide (0 < ((k + 1 : Nat) : Int)) from (decide_eq_true (by omega)).symm)) kn_nil)), (by repeat (first | exact List.Sublist.refl _ | exact List.nil_sublist _ | refine List.Sublist.cons_cons _ ?_ | refine List.Sublist.cons _ ?_ | exact Sbp.refl | exact Sbp.nil | refine Sbp.cons (by repeat (first | exact Rem.head | apply Rem.tail)) ?_ | exact Sbp.app | refine Sbp.skip ?_))⟩
      have hb26p := ne_of_beq_false hb26
      refine RS.off (dj := 81) rfl (.inl (congrArg Value.bool hb26)) (fun _ => rfl) rfl ?_
      refine RS.off (dj := 81) rfl (.inl (congrArg Value.bool hb26)) (fun _ => rfl) rfl ?_
      refine RS.off (dj := 81) rfl (.inl (congrArg Value.bool hb26)) (fun _ => rfl) rfl ?_
      refine RS.q rfl (QO.pickF (by rfl) hb26 (by rfl)) ?_
      refine RS.q rfl (QO.assign) ?_
      refine RS.nil ?_
      refine thenC_n ?_
      refine CS.condF (by rfl) rfl ?_
      refine CS.draw 31 rfl (by kernel_rfl) (by kernel_rfl) ?_
      refine RT.take (i := 0) rfl (by kernel_rfl) rfl (QO.fieldAddr fo134_1 (by rfl)) ?_
      refine RT.take (i := 1) rfl (by kernel_rfl) rfl (QO.load ty3 (by rfl) (by repeat (first | exact List.Mem.head _ | refine List.Mem.tail _ ?_)) (by rfl)) ?_
      refine RT.take (i := 2) rfl (by kernel_rfl) rfl (QO.eql (by rfl) (by rfl)) ?_
      refine RT.take (i := 3) rfl (by kernel_rfl) rfl (QO.move) ?_
      refine RT.split (dj := 89) (by rfl) (fun hb32 => ?_) (fun hb32 => ?_)
      · have hb32p := eq_of_beq hb32
        refine RT.takeOn (i := 4) (dj := 89) rfl rfl (congrArg Value.bool hb32) (by kernel_rfl) rfl (QO.fieldAddr fo134_2 (by rfl)) ?_
        refine RT.takeOn (i := 5) (dj := 89) rfl rfl (congrArg Value.bool hb32) (by kernel_rfl) rfl (QO.load ty3 (by rfl) (by repeat (first | exact List.Mem.head _ | refine List.Mem.tail _ ?_)) (by rfl)) ?_
        refine RT.takeOn (i := 6) (dj := 89) rfl rfl (congrArg Value.bool hb32) (by kernel_rfl) rfl (QO.lss (by rfl) (by rfl)) ?_
        refine RT.takeOn (i := 7) (dj := 89) rfl rfl (congrArg Value.bool hb32) (by kernel_rfl) rfl (QO.move) ?_
        refine RT.split (dj := 93) (by rfl) (fun hb33 => ?_) (fun hb33 => ?_)
        · have hb33p := of_decide_eq_true hb33
          refine RT.takeOff (i := 8) (dj := 93) rfl rfl (.inl (congrArg Value.bool hb33)) (fun _ => rfl) (by kernel_rfl) rfl ?_
          refine RT.takeOff (i := 9) (dj := 93) rfl rfl (.inl (congrArg Value.bool hb33)) (fun _ => rfl) (by kernel_rfl) rfl ?_
          refine RT.takeOff (i := 10) (dj := 93) rfl rfl (.inl (congrArg Value.bool hb33)) (fun _ => rfl) (by kernel_rfl) rfl ?_
          refine RT.takeOn (i := 11) (dj := 89) rfl rfl (congrArg Value.bool hb32) (by kernel_rfl) rfl (QO.pickT (by rfl) hb33 (by rfl)) ?_
          refine RT.takeOn (i := 12) (dj := 89) rfl rfl (congrArg Value.bool hb32) (by kernel_rfl) rfl (QO.move) ?_
          refine RT.takeOff (i := 13) (dj := 98) rfl rfl (.inl (congrArg Value.bool rfl)) (fun _ => rfl) (by kernel_rfl) rfl ?_
          refine RT.takeOff (i := 14) (dj := 98) rfl rfl (.inl (congrArg Value.bool rfl)) (fun _ => rfl) (by kernel_rfl) rfl ?_
          refine RT.takeOff (i := 15) (dj := 98) rfl rfl (.inl (congrArg Value.bool rfl)) (fun _ => rfl) (by kernel_rfl) rfl ?_
          refine RT.one (i := 16) (by kernel_rfl) rfl rfl ?_
          refine RS.off (dj := 98) rfl (.inl (congrArg Value.bool rfl)) (fun _ => rfl) rfl ?_
          refine RS.nil ⟨(by repeat (first | exact List.Sublist.refl _ | exact List.nil_sublist _ | refine List.Sublist.cons_cons _ ?_ | refine List.Sublist.cons _ ?_ | exact Sbp.refl | exact Sbp.nil | refine Sbp.cons (by repeat (first | exact Rem.head | apply Rem.tail)) ?_ | exact Sbp.app | refine Sbp.skip ?_)), ?_⟩
          refine RT.takeOff (i := 17) (dj := 98) rfl rfl (.inl (congrArg Value.bool rfl)) (fun _ => rfl) (by kernel_rfl) rfl ?_
          refine RT.takeOn (i := 18) (dj := 89) rfl rfl (congrArg Value.bool hb32) (by kernel_rfl) rfl (QO.pickT (by rfl) rfl (by rfl)) ?_
          refine RT.takeOn (i := 19) (dj := 89) rfl rfl (congrArg Value.bool hb32) (by kernel_rfl) rfl (QO.move) ?_
          refine RT.takeOff (i := 20) (dj := 105) rfl rfl (.inl (congrArg Value.bool rfl)) (fun _ => rfl) (by kernel_rfl) rfl ?_
          refine RT.takeOff (i := 21) (dj := 105) rfl rfl (.inl (congrArg Value.bool rfl)) (fun _ => rfl) (by kernel_rfl) rfl ?_
          refine RT.takeOn (i := 22) (dj := 89) rfl rfl (congrArg Value.bool hb32) (by kernel_rfl) rfl (QO.pickT (by rfl) rfl (by rfl)) ?_
          refine RT.takeOn (i := 23) (dj := 89) rfl rfl (congrArg Value.bool hb32) (by kernel_rfl) rfl (QO.move) ?_
          refine RT.takeOff (i := 24) (dj := 109) rfl rfl (.inl (congrArg Value.bool rfl)) (fun _ => rfl) (by kernel_rfl) rfl ?_
          refine RT.takeOff (i := 25) (dj := 109) rfl rfl (.inl (congrArg Value.bool rfl)) (fun _ => rfl) (by kernel_rfl) rfl ?_
          refine RT.takeOff (i := 26) (dj := 109) rfl rfl (.inl (congrArg Value.bool rfl)) (fun _ => rfl) (by kernel_rfl) rfl ?_
          refine RT.takeOff (i := 27) (dj := 109) rfl rfl (.inl (congrArg Value.bool rfl)) (fun _ => rfl) (by kernel_rfl) rfl ?_
          refine RT.takeOn (i := 28) (dj := 89) rfl rfl (congrArg Value.bool hb32) (by kernel_rfl) rfl (QO.pickT (by rfl) rfl (by rfl)) ?_
          refine RT.take (i := 29) rfl (by kernel_rfl) rfl (QO.pickT (by rfl) hb32 (by rfl)) ?_
          refine RT.take (i := 30) rfl (by kernel_rfl) rfl (QO.assign) ?_
          refine RT.done (by kernel_rfl) ?_
          refine thenC_n ?_
          refine CS.condT (by rfl) rfl ?_
          refine CS.seq ?_
          refine CS.region ?_
          refine RS.q rfl (QO.assign) ?_
          refine RS.nil ?_
          refine thenC_n ?_
          refine CS.ret ?_
          refine blockC_r ?_
          refine thenC_r ?_
          refine blockC_r ?_
          refine thenC_r ?_
          refine loopQ_r ?_
          refine blockC_r ?_
          refine thenC_r ?_
          refine retQ.mk (H' := []) (.inr rfl) (RVs.tmp (by rfl) RVs.nil) (List.nil_sublist _) ?_
          exact ⟨congrArg iv (edE_at hn hs hlen hz (by omega) (hev.trans (evE1_12 (by assumption) (by omega) (by omega) (by omega) (by omega))) (by decide)).symm, rfl⟩
        have hb33p := of_decide_eq_false hb33
        refine RT.takeOn (i := 8) (dj := 93) rfl rfl (congrArg Value.bool hb33) (by kernel_rfl) rfl (QO.fieldAddr fo134_2 (by rfl)) ?_
        refine RT.takeOn (i := 9) (dj := 93) rfl rfl (congrArg Value.bool hb33) (by kernel_rfl) rfl (QO.load ty3 (by rfl) (by repeat (first | exact List.Mem.head _ | refine List.Mem.tail _ ?_)) (by rfl)) ?_
        refine RT.takeOn (i := 10) (dj := 93) rfl rfl (congrArg Value.bool hb33) (by kernel_rfl) rfl (QO.gtr (by rfl) (by rfl)) ?_
        refine RT.takeOn (i := 11) (dj := 89) rfl rfl (congrArg Value.bool hb32) (by kernel_rfl) rfl (QO.pickF (by rfl) hb33 (by rfl)) ?_
        refine RT.takeOn (i := 12) (dj := 89) rfl rfl (congrArg Value.bool hb32) (by kernel_rfl) rfl (QO.move) ?_
        refine RT.split (dj := 98) (by rfl) (fun hb34 => ?_) (fun hb34 => ?_)
        · have hb34p := of_decide_eq_true hb34
          refine RT.takeOff (i := 13) (dj := 98) rfl rfl (.inl (congrArg Value.bool hb34)) (fun _ => rfl) (by kernel_rfl) rfl ?_
          refine RT.takeOff (i := 14) (dj := 98) rfl rfl (.inl (congrArg Value.bool hb34)) (fun _ => rfl) (by kernel_rfl) rfl ?_
          refine RT.takeOff (i := 15) (dj := 98) rfl rfl (.inl (congrArg Value.bool hb34)) (fun _ => rfl) (by kernel_rfl) rfl ?_
          refine RT.one (i := 16) (by kernel_rfl) rfl rfl ?_
          refine RS.off (dj := 98) rfl (.inl (congrArg Value.bool hb34)) (fun _ => rfl) rfl ?_
          refine RS.nil ⟨(by repeat (first | exact List.Sublist.refl _ | exact List.nil_sublist _ | refine List.Sublist.cons_cons _ ?_ | refine List.Sublist.cons _ ?_ | exact Sbp.refl | exact Sbp.nil | refine Sbp.cons (by repeat (first | exact Rem.head | apply Rem.tail)) ?_ | exact Sbp.app | refine Sbp.skip ?_)), ?_⟩
          refine RT.takeOff (i := 17) (dj := 98) rfl rfl (.inl (congrArg Value.bool hb34)) (fun _ => rfl) (by kernel_rfl) rfl ?_
          refine RT.takeOn (i := 18) (dj := 89) rfl rfl (congrArg Value.bool hb32) (by kernel_rfl) rfl (QO.pickT (by rfl) hb34 (by rfl)) ?_
          refine RT.takeOn (i := 19) (dj := 89) rfl rfl (congrArg Value.bool hb32) (by kernel_rfl) rfl (QO.move) ?_
          refine RT.takeOff (i := 20) (dj := 105) rfl rfl (.inl (congrArg Value.bool rfl)) (fun _ => rfl) (by kernel_rfl) rfl ?_
          refine RT.takeOff (i := 21) (dj := 105) rfl rfl (.inl (congrArg Value.bool rfl)) (fun _ => rfl) (by kernel_rfl) rfl ?_
          refine RT.takeOn (i := 22) (dj := 89) rfl rfl (congrArg Value.bool hb32) (by kernel_rfl) rfl (QO.pickT (by rfl) rfl (by rfl)) ?_
          refine RT.takeOn (i := 23) (dj := 89) rfl rfl (congrArg Value.bool hb32) (by kernel_rfl) rfl (QO.move) ?_
          refine RT.takeOff (i := 24) (dj := 109) rfl rfl (.inl (congrArg Value.bool rfl)) (fun _ => rfl) (by kernel_rfl) rfl ?_
          refine RT.takeOff (i := 25) (dj := 109) rfl rfl (.inl (congrArg Value.bool rfl)) (fun _ => rfl) (by kernel_rfl) rfl ?_
          refine RT.takeOff (i := 26) (dj := 109) rfl rfl (.inl (congrArg Value.bool rfl)) (fun _ => rfl) (by kernel_rfl) rfl ?_
          refine RT.takeOff (i := 27) (dj := 109) rfl rfl (.inl (congrArg Value.bool rfl)) (fun _ => rfl) (by kernel_rfl) rfl ?_
          refine RT.takeOn (i := 28) (dj := 89) rfl rfl (congrArg Value.bool hb32) (by kernel_rfl) rfl (QO.pickT (by rfl) rfl (by rfl)) ?_
          refine RT.take (i := 29) rfl (by kernel_rfl) rfl (QO.pickT (by rfl) hb32 (by rfl)) ?_
          refine RT.take (i := 30) rfl (by kernel_rfl) rfl (QO.assign) ?_
          refine RT.done (by kernel_rfl) ?_
          refine thenC_n ?_
          refine CS.condT (by rfl) rfl ?_
          refine CS.seq ?_
          refine CS.region ?_
          refine RS.q rfl (QO.assign) ?_
          refine RS.nil ?_
          refine thenC_n ?_
          refine CS.ret ?_
          refine blockC_r ?_
          refine thenC_r ?_
          refine blockC_r ?_
          refine thenC_r ?_
          refine loopQ_r ?_
          refine blockC_r ?_
          refine thenC_r ?_
          refine retQ.mk (H' := []) (.inr rfl) (RVs.tmp (by rfl) RVs.nil) (List.nil_sublist _) ?_
          exact ⟨congrArg iv (edE_at hn hs hlen hz (by omega) (hev.trans (evE1_12 (by assumption) (by omega) (by omega) (by omega) (by omega))) (by decide)).symm, rfl⟩
        have hb34p := of_decide_eq_false hb34
        refine RT.takeOn (i := 13) (dj := 98) rfl rfl (congrArg Value.bool hb34) (by kernel_rfl) rfl (QO.fieldAddr fo134_2 (by rfl)) ?_
        refine RT.takeOn (i := 14) (dj := 98) rfl rfl (congrArg Value.bool hb34) (by kernel_rfl) rfl (QO.load ty3 (by rfl) (by repeat (first | exact List.Mem.head _ | refine List.Mem.tail _ ?_)) (by rfl)) ?_
        refine RT.takeOn (i := 15) (dj := 98) rfl rfl (congrArg Value.bool hb34) (by kernel_rfl) rfl (QO.loadB ty134 (by rfl) (by repeat (first | exact List.Mem.head _ | refine List.Mem.tail _ ?_)) (by rfl)) ?_
        refine RT.one (i := 16) (by kernel_rfl) rfl rfl ?_
        refine RS.on (dj := 98) rfl (congrArg Value.bool hb34) ?_
        refine RS.call rfl (by rfl) ok97 (by rfl) (fun w ho => long_ e _ (by omega)) ?_
        rintro _ _ ⟨rfl, rfl⟩
        refine RS.nil ⟨(by repeat (first | exact List.Sublist.refl _ | exact List.nil_sublist _ | refine List.Sublist.cons_cons _ ?_ | refine List.Sublist.cons _ ?_ | exact Sbp.refl | exact Sbp.nil | refine Sbp.cons (by repeat (first | exact Rem.head | apply Rem.tail)) ?_ | exact Sbp.app | refine Sbp.skip ?_)), ?_⟩
        refine RT.takeOn (i := 17) (dj := 98) rfl rfl (congrArg Value.bool hb34) (by kernel_rfl) rfl (QO.gtr (by rfl) (by rfl)) ?_
        refine RT.takeOn (i := 18) (dj := 89) rfl rfl (congrArg Value.bool hb32) (by kernel_rfl) rfl (QO.pickF (by rfl) hb34 (by rfl)) ?_
        refine RT.takeOn (i := 19) (dj := 89) rfl rfl (congrArg Value.bool hb32) (by kernel_rfl) rfl (QO.move) ?_
        refine RT.split (dj := 105) (by rfl) (fun hb35 => ?_) (fun hb35 => ?_)
        · have hb35p := of_decide_eq_true hb35
          refine RT.takeOff (i := 20) (dj := 105) rfl rfl (.inl (congrArg Value.bool hb35)) (fun _ => rfl) (by kernel_rfl) rfl ?_
          refine RT.takeOff (i := 21) (dj := 105) rfl rfl (.inl (congrArg Value.bool hb35)) (fun _ => rfl) (by kernel_rfl) rfl ?_
          refine RT.takeOn (i := 22) (dj := 89) rfl rfl (congrArg Value.bool hb32) (by kernel_rfl) rfl (QO.pickT (by rfl) hb35 (by rfl)) ?_
          refine RT.takeOn (i := 23) (dj := 89) rfl rfl (congrArg Value.bool hb32) (by kernel_rfl) rfl (QO.move) ?_
          refine RT.takeOff (i := 24) (dj := 109) rfl rfl (.inl (congrArg Value.bool rfl)) (fun _ => rfl) (by kernel_rfl) rfl ?_
          refine RT.takeOff (i := 25) (dj := 109) rfl rfl (.inl (congrArg Value.bool rfl)) (fun _ => rfl) (by kernel_rfl) rfl ?_
          refine RT.takeOff (i := 26) (dj := 109) rfl rfl (.inl (congrArg Value.bool rfl)) (fun _ => rfl) (by kernel_rfl) rfl ?_
          refine RT.takeOff (i := 27) (dj := 109) rfl rfl (.inl (congrArg Value.bool rfl)) (fun _ => rfl) (by kernel_rfl) rfl ?_
          refine RT.takeOn (i := 28) (dj := 89) rfl rfl (congrArg Value.bool hb32) (by kernel_rfl) rfl (QO.pickT (by rfl) rfl (by rfl)) ?_
          refine RT.take (i := 29) rfl (by kernel_rfl) rfl (QO.pickT (by rfl) hb32 (by rfl)) ?_
          refine RT.take (i := 30) rfl (by kernel_rfl) rfl (QO.assign) ?_
          refine RT.done (by kernel_rfl) ?_
          refine thenC_n ?_
          refine CS.condT (by rfl) rfl ?_
          refine CS.seq ?_
          refine CS.region ?_
          refine RS.q rfl (QO.assign) ?_
          refine RS.nil ?_
          refine thenC_n ?_
          refine CS.ret ?_
          refine blockC_r ?_
          refine thenC_r ?_
          refine blockC_r ?_
          refine thenC_r ?_
          refine loopQ_r ?_
          refine blockC_r ?_
          refine thenC_r ?_
          refine retQ.mk (H' := []) (.inr rfl) (RVs.tmp (by rfl) RVs.nil) (List.nil_sublist _) ?_
          exact ⟨congrArg iv (edE_at hn hs hlen hz (by omega) (hev.trans (evE1_12 (by assumption) (by omega) (by omega) (by omega) (by omega))) (by decide)).symm, rfl⟩
        have hb35p := of_decide_eq_false hb35
        refine RT.takeOn (i := 20) (dj := 105) rfl rfl (congrArg Value.bool hb35) (by kernel_rfl) rfl (QO.move) ?_
        refine RT.takeOn (i := 21) (dj := 105) rfl rfl (congrArg Value.bool hb35) (by kernel_rfl) rfl (QO.not (by rfl)) ?_
        refine RT.takeOn (i := 22) (dj := 89) rfl rfl (congrArg Value.bool hb32) (by kernel_rfl) rfl (QO.pickF (by rfl) hb35 (by rfl)) ?_
        refine RT.takeOn (i := 23) (dj := 89) rfl rfl (congrArg Value.bool hb32) (by kernel_rfl) rfl (QO.move) ?_
        refine RT.takeOff (i := 24) (dj := 109) rfl rfl (.inl (congrArg Value.bool (by rw [hb12] <;> rfl))) (fun _ => rfl) (by kernel_rfl) rfl ?_
        refine RT.takeOff (i := 25) (dj := 109) rfl rfl (.inl (congrArg Value.bool (by rw [hb12] <;> rfl))) (fun _ => rfl) (by kernel_rfl) rfl ?_
        refine RT.takeOff (i := 26) (dj := 109) rfl rfl (.inl (congrArg Value.bool (by rw [hb12] <;> rfl))) (fun _ => rfl) (by kernel_rfl) rfl ?_
        refine RT.takeOff (i := 27) (dj := 109) rfl rfl (.inl (congrArg Value.bool (by rw [hb12] <;> rfl))) (fun _ => rfl) (by kernel_rfl) rfl ?_
        refine RT.takeOn (i := 28) (dj := 89) rfl rfl (congrArg Value.bool hb32) (by kernel_rfl) rfl (QO.pickT (by rfl) (by rw [hb12] <;> rfl) (by rfl)) ?_
        refine RT.take (i := 29) rfl (by kernel_rfl) rfl (QO.pickT (by rfl) hb32 (by rfl)) ?_
        refine RT.take (i := 30) rfl (by kernel_rfl) rfl (QO.assign) ?_
        refine RT.done (by kernel_rfl) ?_
        refine thenC_n ?_
        refine CS.condT (by rfl) rfl ?_
        refine CS.seq ?_
        refine CS.region ?_
        refine RS.q rfl (QO.assign) ?_
        refine RS.nil ?_
        refine thenC_n ?_
        refine CS.ret ?_
        refine blockC_r ?_
        refine thenC_r ?_
        refine blockC_r ?_
        refine thenC_r ?_
        refine loopQ_r ?_
        refine blockC_r ?_
        refine thenC_r ?_
        refine retQ.mk (H' := []) (.inr rfl) (RVs.tmp (by rfl) RVs.nil) (List.nil_sublist _) ?_
        exact ⟨congrArg iv (edE_at hn hs hlen hz (by omega) (hev.trans (evE1_12 (by assumption) (by omega) (by omega) (by omega) (by omega))) (by decide)).symm, rfl⟩
      have hb32p := ne_of_beq_false hb32
      refine RT.takeOff (i := 4) (dj := 89) rfl rfl (.inl (congrArg Value.bool hb32)) (fun _ => rfl) (by kernel_rfl) rfl ?_
      refine RT.takeOff (i := 5) (dj := 89) rfl rfl (.inl (congrArg Value.bool hb32)) (fun _ => rfl) (by kernel_rfl) rfl ?_
      refine RT.takeOff (i := 6) (dj := 89) rfl rfl (.inl (congrArg Value.bool hb32)) (fun _ => rfl) (by kernel_rfl) rfl ?_
      refine RT.takeOff (i := 7) (dj := 89) rfl rfl (.inl (congrArg Value.bool hb32)) (fun _ => rfl) (by kernel_rfl) rfl ?_
      refine RT.takeOff (i := 8) (dj := 93) (c := true) rfl rfl (.inr rfl) (fun h => by cases h) (by kernel_rfl) rfl ?_
      refine RT.takeOff (i := 9) (dj := 93) (c := true) rfl rfl (.inr rfl) (fun h => by cases h) (by kernel_rfl) rfl ?_
      refine RT.takeOff (i := 10) (dj := 93) (c := true) rfl rfl (.inr rfl) (fun h => by cases h) (by kernel_rfl) rfl ?_
      refine RT.takeOff (i := 11) (dj := 89) rfl rfl (.inl (congrArg Value.bool hb32)) (fun _ => rfl) (by kernel_rfl) rfl ?_
      refine RT.takeOff (i := 12) (dj := 89) rfl rfl (.inl (congrArg Value.bool hb32)) (fun _ => rfl) (by kernel_rfl) rfl ?_
      refine RT.takeOff (i := 13) (dj := 98) (c := true) rfl rfl (.inr rfl) (fun h => by cases h) (by kernel_rfl) rfl ?_
      refine RT.takeOff (i := 14) (dj := 98) (c := true) rfl rfl (.inr rfl) (fun h => by cases h) (by kernel_rfl) rfl ?_
      refine RT.takeOff (i := 15) (dj := 98) (c := true) rfl rfl (.inr rfl) (fun h => by cases h) (by kernel_rfl) rfl ?_
      refine RT.one (i := 16) (by kernel_rfl) rfl rfl ?_
      refine RS.off (dj := 98) (c := true) rfl (.inr rfl) (fun h => by cases h) rfl ?_
      refine RS.nil ⟨(by repeat (first | exact List.Sublist.refl _ | exact List.nil_sublist _ | refine List.Sublist.cons_cons _ ?_ | refine List.Sublist.cons _ ?_ | exact Sbp.refl | exact Sbp.nil | refine Sbp.cons (by repeat (first | exact Rem.head | apply Rem.tail)) ?_ | exact Sbp.app | refine Sbp.skip ?_)), ?_⟩
      refine RT.takeOff (i := 17) (dj := 98) (c := true) rfl rfl (.inr rfl) (fun h => by cases h) (by kernel_rfl) rfl ?_
      refine RT.takeOff (i := 18) (dj := 89) rfl rfl (.inl (congrArg Value.bool hb32)) (fun _ => rfl) (by kernel_rfl) rfl ?_
      refine RT.takeOff (i := 19) (dj := 89) rfl rfl (.inl (congrArg Value.bool hb32)) (fun _ => rfl) (by kernel_rfl) rfl ?_
      refine RT.takeOff (i := 20) (dj := 105) (c := true) rfl rfl (.inr rfl) (fun h => by cases h) (by kernel_rfl) rfl ?_
      refine RT.takeOff (i := 21) (dj := 105) (c := true) rfl rfl (.inr rfl) (fun h => by cases h) (by kernel_rfl) rfl ?_
      refine RT.takeOff (i := 22) (dj := 89) rfl rfl (.inl (congrArg Value.bool hb32)) (fun _ => rfl) (by kernel_rfl) rfl ?_
      refine RT.takeOff (i := 23) (dj := 89) rfl rfl (.inl (congrArg Value.bool hb32)) (fun _ => rfl) (by kernel_rfl) rfl ?_
      refine RT.takeOff (i := 24) (dj := 109) (c := true) rfl rfl (.inr rfl) (fun h => by cases h) (by kernel_rfl) rfl ?_
      refine RT.takeOff (i := 25) (dj := 109) (c := true) rfl rfl (.inr rfl) (fun h => by cases h) (by kernel_rfl) rfl ?_
      refine RT.takeOff (i := 26) (dj := 109) (c := true) rfl rfl (.inr rfl) (fun h => by cases h) (by kernel_rfl) rfl ?_
      refine RT.takeOff (i := 27) (dj := 109) (c := true) rfl rfl (.inr rfl) (fun h => by cases h) (by kernel_rfl) rfl ?_
      refine RT.takeOff (i := 28) (dj := 89) rfl rfl (.inl (congrArg Value.bool hb32)) (fun _ => rfl) (by kernel_rfl) rfl ?_
      refine RT.take (i := 29) rfl (by kernel_rfl) rfl (QO.pickF (by rfl) hb32 (by rfl)) ?_
      refine RT.take (i := 30) rfl (by kernel_rfl) rfl (QO.assign) ?_
      refine RT.done (by kernel_rfl) ?_
      refine thenC_n ?_
      refine CS.condF (by rfl) rfl ?_
      refine CS.skip ?_
      refine blockC_n ?_
      refine thenC_n ?_
      refine CS.draw 7 rfl (by kernel_rfl) (by kernel_rfl) ?_
      refine RT.take (i := 0) rfl (by kernel_rfl) rfl (QO.fieldAddr fo134_5 (by rfl)) ?_
      refine RT.take (i := 1) rfl (by kernel_rfl) rfl (QO.load ty3 (by rfl) (by repeat (first | exact List.Mem.head _ | refine List.Mem.tail _ ?_)) (by rfl)) ?_
      refine RT.take (i := 2) rfl (by kernel_rfl) rfl (QO.loadB ty134 (by rfl) (by repeat (first | exact List.Mem.head _ | refine List.Mem.tail _ ?_)) (by rfl)) ?_
      refine RT.one (i := 3) (by kernel_rfl) rfl rfl ?_
      refine RS.call rfl (by rfl) ok97 (by rfl) (fun w ho => long_ e _ (by omega)) ?_
      rintro _ _ ⟨rfl, rfl⟩
      refine RS.nil ⟨(by repeat (first | exact List.Sublist.refl _ | exact List.nil_sublist _ | refine List.Sublist.cons_cons _ ?_ | refine List.Sublist.cons _ ?_ | exact Sbp.refl | exact Sbp.nil | refine Sbp.cons (by repeat (first | exact Rem.head | apply Rem.tail)) ?_ | exact Sbp.app | refine Sbp.skip ?_)), ?_⟩
      refine RT.take (i := 4) rfl (by kernel_rfl) rfl (QO.add (by rfl) (by rfl) (by omega) (by omega)) ?_
      refine RT.take (i := 5) rfl (by kernel_rfl) rfl (QO.assign) ?_
      refine RT.take (i := 6) rfl (by kernel_rfl) rfl (QO.assign) ?_
      refine RT.done (by kernel_rfl) ?_
      refine blockC_n ?_
      refine thenC_n ?_
      refine CS.region ?_
      refine RS.q rfl (QO.add (by rfl) (by rfl) (by omega) (by omega)) ?_
      refine RS.q rfl (QO.move) ?_
      refine RS.nil ?_
      refine loopQ_n (by intro t ht; repeat (first | with_reducible exact rfl | exact frame_puts ht (frame_mix ht) _ rfl | (refine frame_put rfl ht ?_) | (refine frame_puts ht ?_ _ rfl) | exact frame_mix ht | (refine frame_mix2 rfl ht ?_) | exact rfl)) ?_
      exact ⟨k + 1, ⟨by omega, firstE_go hz (hev.trans (evE1_0 (by assumption) (by omega) (by omega) (by omega) (by omega)))⟩, by omega, kn_cons (by rfl) (kn_cons (congrArg iv (show e.at_ + (e.out - e.inn) = endB l (k + 1) from hen.symm)) (kn_cons (congrArg Value.bool (show true = decide (0 < ((k + 1 : Nat) : Int)) from (decide_eq_true (by omega)).symm)) kn_nil)), (by repeat (first | exact List.Sublist.refl _ | exact List.nil_sublist _ | refine List.Sublist.cons_cons _ ?_ | refine List.Sublist.cons _ ?_ | exact Sbp.refl | exact Sbp.nil | refine Sbp.cons (by repeat (first | exact Rem.head | apply Rem.tail)) ?_ | exact Sbp.app | refine Sbp.skip ?_))⟩
    have hb5p := of_bne_false hb5
    refine RS.off (dj := 38) rfl (.inl (congrArg Value.bool hb5)) (fun _ => rfl) rfl ?_
    refine RS.off (dj := 38) rfl (.inl (congrArg Value.bool hb5)) (fun _ => rfl) rfl ?_
    refine RS.off (dj := 38) rfl (.inl (congrArg Value.bool hb5)) (fun _ => rfl) rfl ?_
    refine RS.q rfl (QO.pickF (by rfl) hb5 (by rfl)) ?_
    refine RS.q rfl (QO.assign) ?_
    refine RS.nil ?_
    refine thenC_n ?_
    refine CS.condF (by rfl) rfl ?_
    refine CS.seq ?_
    refine CS.region ?_
    refine RS.q rfl (QO.fieldAddr fo134_3 (by rfl)) ?_
    refine RS.q rfl (QO.load ty3 (by rfl) (by repeat (first | exact List.Mem.head _ | refine List.Mem.tail _ ?_)) (by rfl)) ?_
    refine RS.q rfl (QO.lss (by rfl) (by rfl)) ?_
    refine RS.q rfl (QO.move) ?_
    refine RS.split (dj := 47) (by rfl) (fun hb36 => ?_) (fun hb36 => ?_)
    · have hb36p := of_decide_eq_true hb36
      refine RS.off (dj := 47) rfl (.inl (congrArg Value.bool hb36)) (fun _ => rfl) rfl ?_
      refine RS.off (dj := 47) rfl (.inl (congrArg Value.bool hb36)) (fun _ => rfl) rfl ?_
      refine RS.off (dj := 47) rfl (.inl (congrArg Value.bool hb36)) (fun _ => rfl) rfl ?_
      refine RS.off (dj := 47) rfl (.inl (congrArg Value.bool hb36)) (fun _ => rfl) rfl ?_
      refine RS.off (dj := 47) rfl (.inl (congrArg Value.bool hb36)) (fun _ => rfl) rfl ?_
      refine RS.q rfl (QO.pickT (by rfl) hb36 (by rfl)) ?_
      refine RS.q rfl (QO.move) ?_
      refine RS.off (dj := 54) rfl (.inl (congrArg Value.bool rfl)) (fun _ => rfl) rfl ?_
      refine RS.off (dj := 54) rfl (.inl (congrArg Value.bool rfl)) (fun _ => rfl) rfl ?_
      refine RS.off (dj := 54) rfl (.inl (congrArg Value.bool rfl)) (fun _ => rfl) rfl ?_
      refine RS.q rfl (QO.pickT (by rfl) rfl (by rfl)) ?_
      refine RS.q rfl (QO.move) ?_
      refine RS.off (dj := 59) rfl (.inl (congrArg Value.bool rfl)) (fun _ => rfl) rfl ?_
      refine RS.off (dj := 59) rfl (.inl (congrArg Value.bool rfl)) (fun _ => rfl) rfl ?_
      refine RS.off (dj := 59) rfl (.inl (congrArg Value.bool rfl)) (fun _ => rfl) rfl ?_
      refine RS.q rfl (QO.pickT (by rfl) rfl (by rfl)) ?_
      refine RS.q rfl (QO.move) ?_
      refine RS.off (dj := 64) rfl (.inl (congrArg Value.bool rfl)) (fun _ => rfl) rfl ?_
      refine RS.off (dj := 64) rfl (.inl (congrArg Value.bool rfl)) (fun _ => rfl) rfl ?_
      refine RS.off (dj := 64) rfl (.inl (congrArg Value.bool rfl)) (fun _ => rfl) rfl ?_
      refine RS.q rfl (QO.pickT (by rfl) rfl (by rfl)) ?_
      refine RS.q rfl (QO.assign) ?_
      refine RS.nil ?_
      refine thenC_n ?_
      refine CS.condT (by rfl) rfl ?_
      refine CS.seq ?_
      refine CS.region ?_
      refine RS.q rfl (QO.assign) ?_
      refine RS.nil ?_
      refine thenC_n ?_
      refine CS.ret ?_
      refine blockC_r ?_
      refine thenC_r ?_
      refine blockC_r ?_
      refine thenC_r ?_
      refine loopQ_r ?_
      refine blockC_r ?_
      refine thenC_r ?_
      refine retQ.mk (H' := []) (.inr rfl) (RVs.tmp (by rfl) RVs.nil) (List.nil_sublist _) ?_
      exact ⟨congrArg iv (edE_at hn hs hlen hz (by omega) (hev.trans (evE1_3 (by assumption) (by omega) (by omega))) (by decide)).symm, rfl⟩
    have hb36p := of_decide_eq_false hb36
    refine RS.on (dj := 47) rfl (congrArg Value.bool hb36) ?_
    refine RS.q rfl (QO.fieldAddr fo134_4 (by rfl)) ?_
    refine RS.on (dj := 47) rfl (congrArg Value.bool hb36) ?_
    refine RS.q rfl (QO.load ty3 (by rfl) (by repeat (first | exact List.Mem.head _ | refine List.Mem.tail _ ?_)) (by rfl)) ?_
    refine RS.on (dj := 47) rfl (congrArg Value.bool hb36) ?_
    refine RS.q rfl (QO.fieldAddr fo134_3 (by rfl)) ?_
    refine RS.on (dj := 47) rfl (congrArg Value.bool hb36) ?_
    refine RS.q rfl (QO.load ty3 (by rfl) (by repeat (first | exact List.Mem.head _ | refine List.Mem.tail _ ?_)) (by rfl)) ?_
    refine RS.on (dj := 47) rfl (congrArg Value.bool hb36) ?_
    refine RS.q rfl (QO.leq (by rfl) (by rfl)) ?_
    refine RS.q rfl (QO.pickF (by rfl) hb36 (by rfl)) ?_
    refine RS.q rfl (QO.move) ?_
    refine RS.split (dj := 54) (by rfl) (fun hb37 => ?_) (fun hb37 => ?_)
    · have hb37p := of_decide_eq_true hb37
      refine RS.off (dj := 54) rfl (.inl (congrArg Value.bool hb37)) (fun _ => rfl) rfl ?_
      refine RS.off (dj := 54) rfl (.inl (congrArg Value.bool hb37)) (fun _ => rfl) rfl ?_
      refine RS.off (dj := 54) rfl (.inl (congrArg Value.bool hb37)) (fun _ => rfl) rfl ?_
      refine RS.q rfl (QO.pickT (by rfl) hb37 (by rfl)) ?_
      refine RS.q rfl (QO.move) ?_
      refine RS.off (dj := 59) rfl (.inl (congrArg Value.bool rfl)) (fun _ => rfl) rfl ?_
      refine RS.off (dj := 59) rfl (.inl (congrArg Value.bool rfl)) (fun _ => rfl) rfl ?_
      refine RS.off (dj := 59) rfl (.inl (congrArg Value.bool rfl)) (fun _ => rfl) rfl ?_
      refine RS.q rfl (QO.pickT (by rfl) rfl (by rfl)) ?_
      refine RS.q rfl (QO.move) ?_
      refine RS.off (dj := 64) rfl (.inl (congrArg Value.bool rfl)) (fun _ => rfl) rfl ?_
      refine RS.off (dj := 64) rfl (.inl (congrArg Value.bool rfl)) (fun _ => rfl) rfl ?_
      refine RS.off (dj := 64) rfl (.inl (congrArg Value.bool rfl)) (fun _ => rfl) rfl ?_
      refine RS.q rfl (QO.pickT (by rfl) rfl (by rfl)) ?_
      refine RS.q rfl (QO.assign) ?_
      refine RS.nil ?_
      refine thenC_n ?_
      refine CS.condT (by rfl) rfl ?_
      refine CS.seq ?_
      refine CS.region ?_
      refine RS.q rfl (QO.assign) ?_
      refine RS.nil ?_
      refine thenC_n ?_
      refine CS.ret ?_
      refine blockC_r ?_
      refine thenC_r ?_
      refine blockC_r ?_
      refine thenC_r ?_
      refine loopQ_r ?_
      refine blockC_r ?_
      refine thenC_r ?_
      refine retQ.mk (H' := []) (.inr rfl) (RVs.tmp (by rfl) RVs.nil) (List.nil_sublist _) ?_
      exact ⟨congrArg iv (edE_at hn hs hlen hz (by omega) (hev.trans (evE1_3 (by assumption) (by omega) (by omega))) (by decide)).symm, rfl⟩
    have hb37p := of_decide_eq_false hb37
    refine RS.on (dj := 54) rfl (congrArg Value.bool hb37) ?_
    refine RS.q rfl (QO.fieldAddr fo134_4 (by rfl)) ?_
    refine RS.on (dj := 54) rfl (congrArg Value.bool hb37) ?_
    refine RS.q rfl (QO.load ty3 (by rfl) (by repeat (first | exact List.Mem.head _ | refine List.Mem.tail _ ?_)) (by rfl)) ?_
    refine RS.on (dj := 54) rfl (congrArg Value.bool hb37) ?_
    refine RS.q rfl (QO.gtr (by rfl) (by rfl)) ?_
    refine RS.q rfl (QO.pickF (by rfl) hb37 (by rfl)) ?_
    refine RS.q rfl (QO.move) ?_
    refine RS.split (dj := 59) (by rfl) (fun hb38 => ?_) (fun hb38 => ?_)
    · have hb38p := of_decide_eq_true hb38
      refine RS.off (dj := 59) rfl (.inl (congrArg Value.bool hb38)) (fun _ => rfl) rfl ?_
      refine RS.off (dj := 59) rfl (.inl (congrArg Value.bool hb38)) (fun _ => rfl) rfl ?_
      refine RS.off (dj := 59) rfl (.inl (congrArg Value.bool hb38)) (fun _ => rfl) rfl ?_
      refine RS.q rfl (QO.pickT (by rfl) hb38 (by rfl)) ?_
      refine RS.q rfl (QO.move) ?_
      refine RS.off (dj := 64) rfl (.inl (congrArg Value.bool rfl)) (fun _ => rfl) rfl ?_
      refine RS.off (dj := 64) rfl (.inl (congrArg Value.bool rfl)) (fun _ => rfl) rfl ?_
      refine RS.off (dj := 64) rfl (.inl (congrArg Value.bool rfl)) (fun _ => rfl) rfl ?_
      refine RS.q rfl (QO.pickT (by rfl) rfl (by rfl)) ?_
      refine RS.q rfl (QO.assign) ?_
      refine RS.nil ?_
      refine thenC_n ?_
      refine CS.condT (by rfl) rfl ?_
      refine CS.seq ?_
      refine CS.region ?_
      refine RS.q rfl (QO.assign) ?_
      refine RS.nil ?_
      refine thenC_n ?_
      refine CS.ret ?_
      refine blockC_r ?_
      refine thenC_r ?_
      refine blockC_r ?_
      refine thenC_r ?_
      refine loopQ_r ?_
      refine blockC_r ?_
      refine thenC_r ?_
      refine retQ.mk (H' := []) (.inr rfl) (RVs.tmp (by rfl) RVs.nil) (List.nil_sublist _) ?_
      exact ⟨congrArg iv (edE_at hn hs hlen hz (by omega) (hev.trans (evE1_3 (by assumption) (by omega) (by omega))) (by decide)).symm, rfl⟩
    have hb38p := of_decide_eq_false hb38
    refine RS.on (dj := 59) rfl (congrArg Value.bool hb38) ?_
    refine RS.q rfl (QO.fieldAddr fo134_5 (by rfl)) ?_
    refine RS.on (dj := 59) rfl (congrArg Value.bool hb38) ?_
    refine RS.q rfl (QO.load ty3 (by rfl) (by repeat (first | exact List.Mem.head _ | refine List.Mem.tail _ ?_)) (by rfl)) ?_
    refine RS.on (dj := 59) rfl (congrArg Value.bool hb38) ?_
    refine RS.q rfl (QO.lss (by rfl) (by rfl)) ?_
    refine RS.q rfl (QO.pickF (by rfl) hb38 (by rfl)) ?_
    refine RS.q rfl (QO.move) ?_
    refine RS.split (dj := 64) (by rfl) (fun hb39 => ?_) (fun hb39 => ?_)
    · have hb39p := of_decide_eq_true hb39
      refine RS.off (dj := 64) rfl (.inl (congrArg Value.bool hb39)) (fun _ => rfl) rfl ?_
      refine RS.off (dj := 64) rfl (.inl (congrArg Value.bool hb39)) (fun _ => rfl) rfl ?_
      refine RS.off (dj := 64) rfl (.inl (congrArg Value.bool hb39)) (fun _ => rfl) rfl ?_
      refine RS.q rfl (QO.pickT (by rfl) hb39 (by rfl)) ?_
      refine RS.q rfl (QO.assign) ?_
      refine RS.nil ?_
      refine thenC_n ?_
      refine CS.condT (by rfl) rfl ?_
      refine CS.seq ?_
      refine CS.region ?_
      refine RS.q rfl (QO.assign) ?_
      refine RS.nil ?_
      refine thenC_n ?_
      refine CS.ret ?_
      refine blockC_r ?_
      refine thenC_r ?_
      refine blockC_r ?_
      refine thenC_r ?_
      refine loopQ_r ?_
      refine blockC_r ?_
      refine thenC_r ?_
      refine retQ.mk (H' := []) (.inr rfl) (RVs.tmp (by rfl) RVs.nil) (List.nil_sublist _) ?_
      exact ⟨congrArg iv (edE_at hn hs hlen hz (by omega) (hev.trans (evE1_3 (by assumption) (by omega) (by omega))) (by decide)).symm, rfl⟩
    have hb39p := of_decide_eq_false hb39
    refine RS.on (dj := 64) rfl (congrArg Value.bool hb39) ?_
    refine RS.q rfl (QO.fieldAddr fo134_5 (by rfl)) ?_
    refine RS.on (dj := 64) rfl (congrArg Value.bool hb39) ?_
    refine RS.q rfl (QO.load ty3 (by rfl) (by repeat (first | exact List.Mem.head _ | refine List.Mem.tail _ ?_)) (by rfl)) ?_
    refine RS.on (dj := 64) rfl (congrArg Value.bool hb39) ?_
    refine RS.q rfl (QO.gtr (by rfl) (by rfl)) ?_
    refine RS.q rfl (QO.pickF (by rfl) hb39 (by rfl)) ?_
    refine RS.q rfl (QO.assign) ?_
    refine RS.nil ?_
    refine thenC_n ?_
    refine CS.cond (by rfl) (fun hb40 => ?_) (fun hb40 => ?_)
    · have hb40p := of_decide_eq_true hb40
      refine CS.seq ?_
      refine CS.region ?_
      refine RS.q rfl (QO.assign) ?_
      refine RS.nil ?_
      refine thenC_n ?_
      refine CS.ret ?_
      refine blockC_r ?_
      refine thenC_r ?_
      refine blockC_r ?_
      refine thenC_r ?_
      refine loopQ_r ?_
      refine blockC_r ?_
      refine thenC_r ?_
      refine retQ.mk (H' := []) (.inr rfl) (RVs.tmp (by rfl) RVs.nil) (List.nil_sublist _) ?_
      exact ⟨congrArg iv (edE_at hn hs hlen hz (by omega) (hev.trans (evE1_3 (by assumption) (by omega) (by omega))) (by decide)).symm, rfl⟩
    have hb40p := of_decide_eq_false hb40
    refine CS.seq ?_
    refine CS.region ?_
    refine RS.q rfl (QO.move) ?_
    refine RS.q rfl (QO.move) ?_
    refine RS.split (dj := 71) (by rfl) (fun hb41 => ?_) (fun hb41 => ?_)
    · have hb41p := of_decide_eq_true hb41
      refine RS.on (dj := 71) rfl (congrArg Value.bool hb41) ?_
      refine RS.q rfl (QO.fieldAddr fo134_5 (by rfl)) ?_
      refine RS.on (dj := 71) rfl (congrArg Value.bool hb41) ?_
      refine RS.q rfl (QO.load ty3 (by rfl) (by repeat (first | exact List.Mem.head _ | refine List.Mem.tail _ ?_)) (by rfl)) ?_
      refine RS.on (dj := 71) rfl (congrArg Value.bool hb41) ?_
      refine RS.q rfl (QO.move) ?_
      refine RS.on (dj := 71) rfl (congrArg Value.bool hb41) ?_
      refine RS.q rfl (QO.lss (by rfl) (by rfl)) ?_
      refine RS.q rfl (QO.pickT (by rfl) hb41 (by rfl)) ?_
      refine RS.q rfl (QO.assign) ?_
      refine RS.nil ?_
      refine thenC_n ?_
      refine CS.cond (by rfl) (fun hb42 => ?_) (fun hb42 => ?_)
      · have hb42p := of_decide_eq_true hb42
        refine CS.seq ?_
        refine CS.region ?_
        refine RS.q rfl (QO.assign) ?_
        refine RS.nil ?_
        refine thenC_n ?_
        refine CS.ret ?_
        refine blockC_r ?_
        refine thenC_r ?_
        refine blockC_r ?_
        refine thenC_r ?_
        refine loopQ_r ?_
        refine blockC_r ?_
        refine thenC_r ?_
        refine retQ.mk (H' := []) (.inr rfl) (RVs.tmp (by rfl) RVs.nil) (List.nil_sublist _) ?_
        exact ⟨congrArg iv (edE_at hn hs hlen hz (by omega) (hev.trans (evE1_8 (by assumption) (by omega) (by omega) (by omega))) (by decide)).symm, rfl⟩
      have hb42p := of_decide_eq_false hb42
      refine CS.seq ?_
      refine CS.seq ?_
      refine CS.region ?_
      refine RS.q rfl (QO.fieldAddr fo134_1 (by rfl)) ?_
      refine RS.q rfl (QO.load ty3 (by rfl) (by repeat (first | exact List.Mem.head _ | refine List.Mem.tail _ ?_)) (by rfl)) ?_
      refine RS.q rfl (QO.eql (by rfl) (by rfl)) ?_
      refine RS.q rfl (QO.move) ?_
      refine RS.split (dj := 81) (by rfl) (fun hb43 => ?_) (fun hb43 => ?_)
      · have hb43p := eq_of_beq hb43
        refine RS.on (dj := 81) rfl (congrArg Value.bool hb43) ?_
        refine RS.q rfl (QO.fieldAddr fo134_2 (by rfl)) ?_
        refine RS.on (dj := 81) rfl (congrArg Value.bool hb43) ?_
        refine RS.q rfl (QO.load ty3 (by rfl) (by repeat (first | exact List.Mem.head _ | refine List.Mem.tail _ ?_)) (by rfl)) ?_
        refine RS.on (dj := 81) rfl (congrArg Value.bool hb43) ?_
        refine RS.q rfl (QO.neq (by rfl) (by rfl)) ?_
        refine RS.q rfl (QO.pickT (by rfl) hb43 (by rfl)) ?_
        refine RS.q rfl (QO.assign) ?_
        refine RS.nil ?_
        refine thenC_n ?_
        refine CS.cond (by rfl) (fun hb44 => ?_) (fun hb44 => ?_)
        · have hb44p := bne_iff_ne.1 hb44
          refine CS.skip ?_
          refine thenC_n ?_
          refine CS.condT (by rfl) hb44 ?_
          refine CS.seq ?_
          refine CS.region ?_
          refine RS.q rfl (QO.assign) ?_
          refine RS.nil ?_
          refine thenC_n ?_
          refine CS.ret ?_
          refine blockC_r ?_
          refine thenC_r ?_
          refine blockC_r ?_
          refine thenC_r ?_
          refine loopQ_r ?_
          refine blockC_r ?_
          refine thenC_r ?_
          refine retQ.mk (H' := []) (.inr rfl) (RVs.tmp (by rfl) RVs.nil) (List.nil_sublist _) ?_
          exact ⟨congrArg iv (edE_at hn hs hlen hz (by omega) (hev.trans (evE1_12 (by assumption) (by omega) (by omega) (by omega) (by omega))) (by decide)).symm, rfl⟩
        have hb44p := of_bne_false hb44
        refine CS.draw 31 rfl (by kernel_rfl) (by kernel_rfl) ?_
        refine RT.take (i := 0) rfl (by kernel_rfl) rfl (QO.fieldAddr fo134_1 (by rfl)) ?_
        refine RT.take (i := 1) rfl (by kernel_rfl) rfl (QO.load ty3 (by rfl) (by repeat (first | exact List.Mem.head _ | refine List.Mem.tail _ ?_)) (by rfl)) ?_
        refine RT.take (i := 2) rfl (by kernel_rfl) rfl (QO.eql (by rfl) (by rfl)) ?_
        refine RT.take (i := 3) rfl (by kernel_rfl) rfl (QO.move) ?_
        refine RT.split (dj := 89) (by rfl) (fun hb45 => ?_) (fun hb45 => ?_)
        · have hb45p := eq_of_beq hb45
          refine RT.takeOn (i := 4) (dj := 89) rfl rfl (congrArg Value.bool hb45) (by kernel_rfl) rfl (QO.fieldAddr fo134_2 (by rfl)) ?_
          refine RT.takeOn (i := 5) (dj := 89) rfl rfl (congrArg Value.bool hb45) (by kernel_rfl) rfl (QO.load ty3 (by rfl) (by repeat (first | exact List.Mem.head _ | refine List.Mem.tail _ ?_)) (by rfl)) ?_
          refine RT.takeOn (i := 6) (dj := 89) rfl rfl (congrArg Value.bool hb45) (by kernel_rfl) rfl (QO.lss (by rfl) (by rfl)) ?_
          refine RT.takeOn (i := 7) (dj := 89) rfl rfl (congrArg Value.bool hb45) (by kernel_rfl) rfl (QO.move) ?_
          refine RT.split (dj := 93) (by rfl) (fun hb46 => ?_) (fun hb46 => ?_)
          · have hb46p := of_decide_eq_true hb46
            refine RT.takeOff (i := 8) (dj := 93) rfl rfl (.inl (congrArg Value.bool hb46)) (fun _ => rfl) (by kernel_rfl) rfl ?_
            refine RT.takeOff (i := 9) (dj := 93) rfl rfl (.inl (congrArg Value.bool hb46)) (fun _ => rfl) (by kernel_rfl) rfl ?_
            refine RT.takeOff (i := 10) (dj := 93) rfl rfl (.inl (congrArg Value.bool hb46)) (fun _ => rfl) (by kernel_rfl) rfl ?_
            refine RT.takeOn (i := 11) (dj := 89) rfl rfl (congrArg Value.bool hb45) (by kernel_rfl) rfl (QO.pickT (by rfl) hb46 (by rfl)) ?_
            refine RT.takeOn (i := 12) (dj := 89) rfl rfl (congrArg Value.bool hb45) (by kernel_rfl) rfl (QO.move) ?_
            refine RT.takeOff (i := 13) (dj := 98) rfl rfl (.inl (congrArg Value.bool rfl)) (fun _ => rfl) (by kernel_rfl) rfl ?_
            refine RT.takeOff (i := 14) (dj := 98) rfl rfl (.inl (congrArg Value.bool rfl)) (fun _ => rfl) (by kernel_rfl) rfl ?_
            refine RT.takeOff (i := 15) (dj := 98) rfl rfl (.inl (congrArg Value.bool rfl)) (fun _ => rfl) (by kernel_rfl) rfl ?_
            refine RT.one (i := 16) (by kernel_rfl) rfl rfl ?_
            refine RS.off (dj := 98) rfl (.inl (congrArg Value.bool rfl)) (fun _ => rfl) rfl ?_
            refine RS.nil ⟨(by repeat (first | exact List.Sublist.refl _ | exact List.nil_sublist _ | refine List.Sublist.cons_cons _ ?_ | refine List.Sublist.cons _ ?_ | exact Sbp.refl | exact Sbp.nil | refine Sbp.cons (by repeat (first | exact Rem.head | apply Rem.tail)) ?_ | exact Sbp.app | refine Sbp.skip ?_)), ?_⟩
            refine RT.takeOff (i := 17) (dj := 98) rfl rfl (.inl (congrArg Value.bool rfl)) (fun _ => rfl) (by kernel_rfl) rfl ?_
            refine RT.takeOn (i := 18) (dj := 89) rfl rfl (congrArg Value.bool hb45) (by kernel_rfl) rfl (QO.pickT (by rfl) rfl (by rfl)) ?_
            refine RT.takeOn (i := 19) (dj := 89) rfl rfl (congrArg Value.bool hb45) (by kernel_rfl) rfl (QO.move) ?_
            refine RT.takeOff (i := 20) (dj := 105) rfl rfl (.inl (congrArg Value.bool rfl)) (fun _ => rfl) (by kernel_rfl) rfl ?_
            refine RT.takeOff (i := 21) (dj := 105) rfl rfl (.inl (congrArg Value.bool rfl)) (fun _ => rfl) (by kernel_rfl) rfl ?_
            refine RT.takeOn (i := 22) (dj := 89) rfl rfl (congrArg Value.bool hb45) (by kernel_rfl) rfl (QO.pickT (by rfl) rfl (by rfl)) ?_
            refine RT.takeOn (i := 23) (dj := 89) rfl rfl (congrArg Value.bool hb45) (by kernel_rfl) rfl (QO.move) ?_
            refine RT.takeOff (i := 24) (dj := 109) rfl rfl (.inl (congrArg Value.bool rfl)) (fun _ => rfl) (by kernel_rfl) rfl ?_
            refine RT.takeOff (i := 25) (dj := 109) rfl rfl (.inl (congrArg Value.bool rfl)) (fun _ => rfl) (by kernel_rfl) rfl ?_
            refine RT.takeOff (i := 26) (dj := 109) rfl rfl (.inl (congrArg Value.bool rfl)) (fun _ => rfl) (by kernel_rfl) rfl ?_
            refine RT.takeOff (i := 27) (dj := 109) rfl rfl (.inl (congrArg Value.bool rfl)) (fun _ => rfl) (by kernel_rfl) rfl ?_
            refine RT.takeOn (i := 28) (dj := 89) rfl rfl (congrArg Value.bool hb45) (by kernel_rfl) rfl (QO.pickT (by rfl) rfl (by rfl)) ?_
            refine RT.take (i := 29) rfl (by kernel_rfl) rfl (QO.pickT (by rfl) hb45 (by rfl)) ?_
            refine RT.take (i := 30) rfl (by kernel_rfl) rfl (QO.assign) ?_
            refine RT.done (by kernel_rfl) ?_
            refine thenC_n ?_
            refine CS.condT (by rfl) rfl ?_
            refine CS.seq ?_
            refine CS.region ?_
            refine RS.q rfl (QO.assign) ?_
            refine RS.nil ?_
            refine thenC_n ?_
            refine CS.ret ?_
            refine blockC_r ?_
            refine thenC_r ?_
            refine blockC_r ?_
            refine thenC_r ?_
            refine loopQ_r ?_
            refine blockC_r ?_
            refine thenC_r ?_
            refine retQ.mk (H' := []) (.inr rfl) (RVs.tmp (by rfl) RVs.nil) (List.nil_sublist _) ?_
            exact ⟨congrArg iv (edE_at hn hs hlen hz (by omega) (hev.trans (evE1_12 (by assumption) (by omega) (by omega) (by omega) (by omega))) (by decide)).symm, rfl⟩
          have hb46p := of_decide_eq_false hb46
          refine RT.takeOn (i := 8) (dj := 93) rfl rfl (congrArg Value.bool hb46) (by kernel_rfl) rfl (QO.fieldAddr fo134_2 (by rfl)) ?_
          refine RT.takeOn (i := 9) (dj := 93) rfl rfl (congrArg Value.bool hb46) (by kernel_rfl) rfl (QO.load ty3 (by rfl) (by repeat (first | exact List.Mem.head _ | refine List.Mem.tail _ ?_)) (by rfl)) ?_
          refine RT.takeOn (i := 10) (dj := 93) rfl rfl (congrArg Value.bool hb46) (by kernel_rfl) rfl (QO.gtr (by rfl) (by rfl)) ?_
          refine RT.takeOn (i := 11) (dj := 89) rfl rfl (congrArg Value.bool hb45) (by kernel_rfl) rfl (QO.pickF (by rfl) hb46 (by rfl)) ?_
          refine RT.takeOn (i := 12) (dj := 89) rfl rfl (congrArg Value.bool hb45) (by kernel_rfl) rfl (QO.move) ?_
          refine RT.split (dj := 98) (by rfl) (fun hb47 => ?_) (fun hb47 => ?_)
          · have hb47p := of_decide_eq_true hb47
            refine RT.takeOff (i := 13) (dj := 98) rfl rfl (.inl (congrArg Value.bool hb47)) (fun _ => rfl) (by kernel_rfl) rfl ?_
            refine RT.takeOff (i := 14) (dj := 98) rfl rfl (.inl (congrArg Value.bool hb47)) (fun _ => rfl) (by kernel_rfl) rfl ?_
            refine RT.takeOff (i := 15) (dj := 98) rfl rfl (.inl (congrArg Value.bool hb47)) (fun _ => rfl) (by kernel_rfl) rfl ?_
            refine RT.one (i := 16) (by kernel_rfl) rfl rfl ?_
            refine RS.off (dj := 98) rfl (.inl (congrArg Value.bool hb47)) (fun _ => rfl) rfl ?_
            refine RS.nil ⟨(by repeat (first | exact List.Sublist.refl _ | exact List.nil_sublist _ | refine List.Sublist.cons_cons _ ?_ | refine List.Sublist.cons _ ?_ | exact Sbp.refl | exact Sbp.nil | refine Sbp.cons (by repeat (first | exact Rem.head | apply Rem.tail)) ?_ | exact Sbp.app | refine Sbp.skip ?_)), ?_⟩
            refine RT.takeOff (i := 17) (dj := 98) rfl rfl (.inl (congrArg Value.bool hb47)) (fun _ => rfl) (by kernel_rfl) rfl ?_
            refine RT.takeOn (i := 18) (dj := 89) rfl rfl (congrArg Value.bool hb45) (by kernel_rfl) rfl (QO.pickT (by rfl) hb47 (by rfl)) ?_
            refine RT.takeOn (i := 19) (dj := 89) rfl rfl (congrArg Value.bool hb45) (by kernel_rfl) rfl (QO.move) ?_
            refine RT.takeOff (i := 20) (dj := 105) rfl rfl (.inl (congrArg Value.bool rfl)) (fun _ => rfl) (by kernel_rfl) rfl ?_
            refine RT.takeOff (i := 21) (dj := 105) rfl rfl (.inl (congrArg Value.bool rfl)) (fun _ => rfl) (by kernel_rfl) rfl ?_
            refine RT.takeOn (i := 22) (dj := 89) rfl rfl (congrArg Value.bool hb45) (by kernel_rfl) rfl (QO.pickT (by rfl) rfl (by rfl)) ?_
            refine RT.takeOn (i := 23) (dj := 89) rfl rfl (congrArg Value.bool hb45) (by kernel_rfl) rfl (QO.move) ?_
            refine RT.takeOff (i := 24) (dj := 109) rfl rfl (.inl (congrArg Value.bool rfl)) (fun _ => rfl) (by kernel_rfl) rfl ?_
            refine RT.takeOff (i := 25) (dj := 109) rfl rfl (.inl (congrArg Value.bool rfl)) (fun _ => rfl) (by kernel_rfl) rfl ?_
            refine RT.takeOff (i := 26) (dj := 109) rfl rfl (.inl (congrArg Value.bool rfl)) (fun _ => rfl) (by kernel_rfl) rfl ?_
            refine RT.takeOff (i := 27) (dj := 109) rfl rfl (.inl (congrArg Value.bool rfl)) (fun _ => rfl) (by kernel_rfl) rfl ?_
            refine RT.takeOn (i := 28) (dj := 89) rfl rfl (congrArg Value.bool hb45) (by kernel_rfl) rfl (QO.pickT (by rfl) rfl (by rfl)) ?_
            refine RT.take (i := 29) rfl (by kernel_rfl) rfl (QO.pickT (by rfl) hb45 (by rfl)) ?_
            refine RT.take (i := 30) rfl (by kernel_rfl) rfl (QO.assign) ?_
            refine RT.done (by kernel_rfl) ?_
            refine thenC_n ?_
            refine CS.condT (by rfl) rfl ?_
            refine CS.seq ?_
            refine CS.region ?_
            refine RS.q rfl (QO.assign) ?_
            refine RS.nil ?_
            refine thenC_n ?_
            refine CS.ret ?_
            refine blockC_r ?_
            refine thenC_r ?_
            refine blockC_r ?_
            refine thenC_r ?_
            refine loopQ_r ?_
            refine blockC_r ?_
            refine thenC_r ?_
            refine retQ.mk (H' := []) (.inr rfl) (RVs.tmp (by rfl) RVs.nil) (List.nil_sublist _) ?_
            exact ⟨congrArg iv (edE_at hn hs hlen hz (by omega) (hev.trans (evE1_12 (by assumption) (by omega) (by omega) (by omega) (by omega))) (by decide)).symm, rfl⟩
          have hb47p := of_decide_eq_false hb47
          refine RT.takeOn (i := 13) (dj := 98) rfl rfl (congrArg Value.bool hb47) (by kernel_rfl) rfl (QO.fieldAddr fo134_2 (by rfl)) ?_
          refine RT.takeOn (i := 14) (dj := 98) rfl rfl (congrArg Value.bool hb47) (by kernel_rfl) rfl (QO.load ty3 (by rfl) (by repeat (first | exact List.Mem.head _ | refine List.Mem.tail _ ?_)) (by rfl)) ?_
          refine RT.takeOn (i := 15) (dj := 98) rfl rfl (congrArg Value.bool hb47) (by kernel_rfl) rfl (QO.loadB ty134 (by rfl) (by repeat (first | exact List.Mem.head _ | refine List.Mem.tail _ ?_)) (by rfl)) ?_
          refine RT.one (i := 16) (by kernel_rfl) rfl rfl ?_
          refine RS.on (dj := 98) rfl (congrArg Value.bool hb47) ?_
          refine RS.call rfl (by rfl) ok97 (by rfl) (fun w ho => long_ e _ (by omega)) ?_
          rintro _ _ ⟨rfl, rfl⟩
          refine RS.nil ⟨(by repeat (first | exact List.Sublist.refl _ | exact List.nil_sublist _ | refine List.Sublist.cons_cons _ ?_ | refine List.Sublist.cons _ ?_ | exact Sbp.refl | exact Sbp.nil | refine Sbp.cons (by repeat (first | exact Rem.head | apply Rem.tail)) ?_ | exact Sbp.app | refine Sbp.skip ?_)), ?_⟩
          refine RT.takeOn (i := 17) (dj := 98) rfl rfl (congrArg Value.bool hb47) (by kernel_rfl) rfl (QO.gtr (by rfl) (by rfl)) ?_
          refine RT.takeOn (i := 18) (dj := 89) rfl rfl (congrArg Value.bool hb45) (by kernel_rfl) rfl (QO.pickF (by rfl) hb47 (by rfl)) ?_
          refine RT.takeOn (i := 19) (dj := 89) rfl rfl (congrArg Value.bool hb45) (by kernel_rfl) rfl (QO.move) ?_
          refine RT.split (dj := 105) (by rfl) (fun hb48 => ?_) (fun hb48 => ?_)
          · have hb48p := of_decide_eq_true hb48
            refine RT.takeOff (i := 20) (dj := 105) rfl rfl (.inl (congrArg Value.bool hb48)) (fun _ => rfl) (by kernel_rfl) rfl ?_
            refine RT.takeOff (i := 21) (dj := 105) rfl rfl (.inl (congrArg Value.bool hb48)) (fun _ => rfl) (by kernel_rfl) rfl ?_
            refine RT.takeOn (i := 22) (dj := 89) rfl rfl (congrArg Value.bool hb45) (by kernel_rfl) rfl (QO.pickT (by rfl) hb48 (by rfl)) ?_
            refine RT.takeOn (i := 23) (dj := 89) rfl rfl (congrArg Value.bool hb45) (by kernel_rfl) rfl (QO.move) ?_
            refine RT.takeOff (i := 24) (dj := 109) rfl rfl (.inl (congrArg Value.bool rfl)) (fun _ => rfl) (by kernel_rfl) rfl ?_
            refine RT.takeOff (i := 25) (dj := 109) rfl rfl (.inl (congrArg Value.bool rfl)) (fun _ => rfl) (by kernel_rfl) rfl ?_
            refine RT.takeOff (i := 26) (dj := 109) rfl rfl (.inl (congrArg Value.bool rfl)) (fun _ => rfl) (by kernel_rfl) rfl ?_
            refine RT.takeOff (i := 27) (dj := 109) rfl rfl (.inl (congrArg Value.bool rfl)) (fun _ => rfl) (by kernel_rfl) rfl ?_
            refine RT.takeOn (i := 28) (dj := 89) rfl rfl (congrArg Value.bool hb45) (by kernel_rfl) rfl (QO.pickT (by rfl) rfl (by rfl)) ?_
            refine RT.take (i := 29) rfl (by kernel_rfl) rfl (QO.pickT (by rfl) hb45 (by rfl)) ?_
            refine RT.take (i := 30) rfl (by kernel_rfl) rfl (QO.assign) ?_
            refine RT.done (by kernel_rfl) ?_
            refine thenC_n ?_
            refine CS.condT (by rfl) rfl ?_
            refine CS.seq ?_
            refine CS.region ?_
            refine RS.q rfl (QO.assign) ?_
            refine RS.nil ?_
            refine thenC_n ?_
            refine CS.ret ?_
            refine blockC_r ?_
            refine thenC_r ?_
            refine blockC_r ?_
            refine thenC_r ?_
            refine loopQ_r ?_
            refine blockC_r ?_
            refine thenC_r ?_
            refine retQ.mk (H' := []) (.inr rfl) (RVs.tmp (by rfl) RVs.nil) (List.nil_sublist _) ?_
            exact ⟨congrArg iv (edE_at hn hs hlen hz (by omega) (hev.trans (evE1_12 (by assumption) (by omega) (by omega) (by omega) (by omega))) (by decide)).symm, rfl⟩
          have hb48p := of_decide_eq_false hb48
          refine RT.takeOn (i := 20) (dj := 105) rfl rfl (congrArg Value.bool hb48) (by kernel_rfl) rfl (QO.move) ?_
          refine RT.takeOn (i := 21) (dj := 105) rfl rfl (congrArg Value.bool hb48) (by kernel_rfl) rfl (QO.not (by rfl)) ?_
          refine RT.takeOn (i := 22) (dj := 89) rfl rfl (congrArg Value.bool hb45) (by kernel_rfl) rfl (QO.pickF (by rfl) hb48 (by rfl)) ?_
          refine RT.takeOn (i := 23) (dj := 89) rfl rfl (congrArg Value.bool hb45) (by kernel_rfl) rfl (QO.move) ?_
          refine RT.takeOn (i := 24) (dj := 109) rfl rfl (congrArg Value.bool (by rw [hb41] <;> rfl)) (by kernel_rfl) rfl (QO.fieldAddr fo134_5 (by rfl)) ?_
          refine RT.takeOn (i := 25) (dj := 109) rfl rfl (congrArg Value.bool (by rw [hb41] <;> rfl)) (by kernel_rfl) rfl (QO.load ty3 (by rfl) (by repeat (first | exact List.Mem.head _ | refine List.Mem.tail _ ?_)) (by rfl)) ?_
          refine RT.takeOn (i := 26) (dj := 109) rfl rfl (congrArg Value.bool (by rw [hb41] <;> rfl)) (by kernel_rfl) rfl (QO.move) ?_
          refine RT.takeOn (i := 27) (dj := 109) rfl rfl (congrArg Value.bool (by rw [hb41] <;> rfl)) (by kernel_rfl) rfl (QO.neq (by rfl) (by rfl)) ?_
          refine RT.takeOn (i := 28) (dj := 89) rfl rfl (congrArg Value.bool hb45) (by kernel_rfl) rfl (QO.pickF (by rfl) (by rw [hb41] <;> rfl) (by rfl)) ?_
          refine RT.take (i := 29) rfl (by kernel_rfl) rfl (QO.pickT (by rfl) hb45 (by rfl)) ?_
          refine RT.take (i := 30) rfl (by kernel_rfl) rfl (QO.assign) ?_
          refine RT.done (by kernel_rfl) ?_
          refine thenC_n ?_
          refine CS.cond (by rfl) (fun hb49 => ?_) (fun hb49 => ?_)
          · have hb49p := bne_iff_ne.1 hb49
            refine CS.seq ?_
            refine CS.region ?_
            refine RS.q rfl (QO.assign) ?_
            refine RS.nil ?_
            refine thenC_n ?_
            refine CS.ret ?_
            refine blockC_r ?_
            refine thenC_r ?_
            refine blockC_r ?_
            refine thenC_r ?_
            refine loopQ_r ?_
            refine blockC_r ?_
            refine thenC_r ?_
            refine retQ.mk (H' := []) (.inr rfl) (RVs.tmp (by rfl) RVs.nil) (List.nil_sublist _) ?_
            exact ⟨congrArg iv (edE_at hn hs hlen hz (by omega) (hev.trans (evE1_12 (by assumption) (by omega) (by omega) (by omega) (by omega))) (by decide)).symm, rfl⟩
          have hb49p := of_bne_false hb49
          refine CS.skip ?_
          refine blockC_n ?_
          refine thenC_n ?_
          refine CS.draw 7 rfl (by kernel_rfl) (by kernel_rfl) ?_
          refine RT.take (i := 0) rfl (by kernel_rfl) rfl (QO.fieldAddr fo134_5 (by rfl)) ?_
          refine RT.take (i := 1) rfl (by kernel_rfl) rfl (QO.load ty3 (by rfl) (by repeat (first | exact List.Mem.head _ | refine List.Mem.tail _ ?_)) (by rfl)) ?_
          refine RT.take (i := 2) rfl (by kernel_rfl) rfl (QO.loadB ty134 (by rfl) (by repeat (first | exact List.Mem.head _ | refine List.Mem.tail _ ?_)) (by rfl)) ?_
          refine RT.one (i := 3) (by kernel_rfl) rfl rfl ?_
          refine RS.call rfl (by rfl) ok97 (by rfl) (fun w ho => long_ e _ (by omega)) ?_
          rintro _ _ ⟨rfl, rfl⟩
          refine RS.nil ⟨(by repeat (first | exact List.Sublist.refl _ | exact List.nil_sublist _ | refine List.Sublist.cons_cons _ ?_ | refine List.Sublist.cons _ ?_ | exact Sbp.refl | exact Sbp.nil | refine Sbp.cons (by repeat (first | exact Rem.head | apply Rem.tail)) ?_ | exact Sbp.app | refine Sbp.skip ?_)), ?_⟩
          refine RT.take (i := 4) rfl (by kernel_rfl) rfl (QO.add (by rfl) (by rfl) (by omega) (by omega)) ?_
          refine RT.take (i := 5) rfl (by kernel_rfl) rfl (QO.assign) ?_
          refine RT.take (i := 6) rfl (by kernel_rfl) rfl (QO.assign) ?_
          refine RT.done (by kernel_rfl) ?_
          refine blockC_n ?_
          refine thenC_n ?_
          refine CS.region ?_
          refine RS.q rfl (QO.add (by rfl) (by rfl) (by omega) (by omega)) ?_
          refine RS.q rfl (QO.move) ?_
          refine RS.nil ?_
          refine loopQ_n (by intro t ht; repeat (first | with_reducible exact rfl | exact frame_puts ht (frame_mix ht) _ rfl | (refine frame_put rfl ht ?_) | (refine frame_puts ht ?_ _ rfl) | exact frame_mix ht | (refine frame_mix2 rfl ht ?_) | exact rfl)) ?_
          exact ⟨k + 1, ⟨by omega, firstE_go hz (hev.trans (evE1_0 (by assumption) (by omega) (by omega) (by omega) (by omega)))⟩, by omega, kn_cons (by rfl) (kn_cons (congrArg iv (show e.at_ + (e.out - e.inn) = endB l (k + 1) from hen.symm)) (kn_cons (congrArg Value.bool (show true = decide (0 < ((k + 1 : Nat) : Int)) from (decide_eq_true (by omega)).symm)) kn_nil)), (by repeat (first | exact List.Sublist.refl _ | exact List.nil_sublist _ | refine List.Sublist.cons_cons _ ?_ | refine List.Sublist.cons _ ?_ | exact Sbp.refl | exact Sbp.nil | refine Sbp.cons (by repeat (first | exact Rem.head | apply Rem.tail)) ?_ | exact Sbp.app | refine Sbp.skip ?_))⟩
        have hb45p := ne_of_beq_false hb45
        refine RT.takeOff (i := 4) (dj := 89) rfl rfl (.inl (congrArg Value.bool hb45)) (fun _ => rfl) (by kernel_rfl) rfl ?_
        refine RT.takeOff (i := 5) (dj := 89) rfl rfl (.inl (congrArg Value.bool hb45)) (fun _ => rfl) (by kernel_rfl) rfl ?_
        refine RT.takeOff (i := 6) (dj := 89) rfl rfl (.inl (congrArg Value.bool hb45)) (fun _ => rfl) (by kernel_rfl) rfl ?_
        refine RT.takeOff (i := 7) (dj := 89) rfl rfl (.inl (congrArg Value.bool hb45)) (fun _ => rfl) (by kernel_rfl) rfl ?_
        refine RT.takeOff (i := 8) (dj := 93) (c := true) rfl rfl (.inr rfl) (fun h => by cases h) (by kernel_rfl) rfl ?_
        refine RT.takeOff (i := 9) (dj := 93) (c := true) rfl rfl (.inr rfl) (fun h => by cases h) (by kernel_rfl) rfl ?_
        refine RT.takeOff (i := 10) (dj := 93) (c := true) rfl rfl (.inr rfl) (fun h => by cases h) (by kernel_rfl) rfl ?_
        refine RT.takeOff (i := 11) (dj := 89) rfl rfl (.inl (congrArg Value.bool hb45)) (fun _ => rfl) (by kernel_rfl) rfl ?_
        refine RT.takeOff (i := 12) (dj := 89) rfl rfl (.inl (congrArg Value.bool hb45)) (fun _ => rfl) (by kernel_rfl) rfl ?_
        refine RT.takeOff (i := 13) (dj := 98) (c := true) rfl rfl (.inr rfl) (fun h => by cases h) (by kernel_rfl) rfl ?_
        refine RT.takeOff (i := 14) (dj := 98) (c := true) rfl rfl (.inr rfl) (fun h => by cases h) (by kernel_rfl) rfl ?_
        refine RT.takeOff (i := 15) (dj := 98) (c := true) rfl rfl (.inr rfl) (fun h => by cases h) (by kernel_rfl) rfl ?_
        refine RT.one (i := 16) (by kernel_rfl) rfl rfl ?_
        refine RS.off (dj := 98) (c := true) rfl (.inr rfl) (fun h => by cases h) rfl ?_
        refine RS.nil ⟨(by repeat (first | exact List.Sublist.refl _ | exact List.nil_sublist _ | refine List.Sublist.cons_cons _ ?_ | refine List.Sublist.cons _ ?_ | exact Sbp.refl | exact Sbp.nil | refine Sbp.cons (by repeat (first | exact Rem.head | apply Rem.tail)) ?_ | exact Sbp.app | refine Sbp.skip ?_)), ?_⟩
        refine RT.takeOff (i := 17) (dj := 98) (c := true) rfl rfl (.inr rfl) (fun h => by cases h) (by kernel_rfl) rfl ?_
        refine RT.takeOff (i := 18) (dj := 89) rfl rfl (.inl (congrArg Value.bool hb45)) (fun _ => rfl) (by kernel_rfl) rfl ?_
        refine RT.takeOff (i := 19) (dj := 89) rfl rfl (.inl (congrArg Value.bool hb45)) (fun _ => rfl) (by kernel_rfl) rfl ?_
        refine RT.takeOff (i := 20) (dj := 105) (c := true) rfl rfl (.inr rfl) (fun h => by cases h) (by kernel_rfl) rfl ?_
        refine RT.takeOff (i := 21) (dj := 105) (c := true) rfl rfl (.inr rfl) (fun h => by cases h) (by kernel_rfl) rfl ?_
        refine RT.takeOff (i := 22) (dj := 89) rfl rfl (.inl (congrArg Value.bool hb45)) (fun _ => rfl) (by kernel_rfl) rfl ?_
        refine RT.takeOff (i := 23) (dj := 89) rfl rfl (.inl (congrArg Value.bool hb45)) (fun _ => rfl) (by kernel_rfl) rfl ?_
        refine RT.takeOff (i := 24) (dj := 109) (c := true) rfl rfl (.inr rfl) (fun h => by cases h) (by kernel_rfl) rfl ?_
        refine RT.takeOff (i := 25) (dj := 109) (c := true) rfl rfl (.inr rfl) (fun h => by cases h) (by kernel_rfl) rfl ?_
        refine RT.takeOff (i := 26) (dj := 109) (c := true) rfl rfl (.inr rfl) (fun h => by cases h) (by kernel_rfl) rfl ?_
        refine RT.takeOff (i := 27) (dj := 109) (c := true) rfl rfl (.inr rfl) (fun h => by cases h) (by kernel_rfl) rfl ?_
        refine RT.takeOff (i := 28) (dj := 89) rfl rfl (.inl (congrArg Value.bool hb45)) (fun _ => rfl) (by kernel_rfl) rfl ?_
        refine RT.take (i := 29) rfl (by kernel_rfl) rfl (QO.pickF (by rfl) hb45 (by rfl)) ?_
        refine RT.take (i := 30) rfl (by kernel_rfl) rfl (QO.assign) ?_
        refine RT.done (by kernel_rfl) ?_
        refine thenC_n ?_
        refine CS.condF (by rfl) rfl ?_
        refine CS.skip ?_
        refine blockC_n ?_
        refine thenC_n ?_
        refine CS.draw 7 rfl (by kernel_rfl) (by kernel_rfl) ?_
        refine RT.take (i := 0) rfl (by kernel_rfl) rfl (QO.fieldAddr fo134_5 (by rfl)) ?_
        refine RT.take (i := 1) rfl (by kernel_rfl) rfl (QO.load ty3 (by rfl) (by repeat (first | exact List.Mem.head _ | refine List.Mem.tail _ ?_)) (by rfl)) ?_
        refine RT.take (i := 2) rfl (by kernel_rfl) rfl (QO.loadB ty134 (by rfl) (by repeat (first | exact List.Mem.head _ | refine List.Mem.tail _ ?_)) (by rfl)) ?_
        refine RT.one (i := 3) (by kernel_rfl) rfl rfl ?_
        refine RS.call rfl (by rfl) ok97 (by rfl) (fun w ho => long_ e _ (by omega)) ?_
        rintro _ _ ⟨rfl, rfl⟩
        refine RS.nil ⟨(by repeat (first | exact List.Sublist.refl _ | exact List.nil_sublist _ | refine List.Sublist.cons_cons _ ?_ | refine List.Sublist.cons _ ?_ | exact Sbp.refl | exact Sbp.nil | refine Sbp.cons (by repeat (first | exact Rem.head | apply Rem.tail)) ?_ | exact Sbp.app | refine Sbp.skip ?_)), ?_⟩
        refine RT.take (i := 4) rfl (by kernel_rfl) rfl (QO.add (by rfl) (by rfl) (by omega) (by omega)) ?_
        refine RT.take (i := 5) rfl (by kernel_rfl) rfl (QO.assign) ?_
        refine RT.take (i := 6) rfl (by kernel_rfl) rfl (QO.assign) ?_
        refine RT.done (by kernel_rfl) ?_
        refine blockC_n ?_
        refine thenC_n ?_
        refine CS.region ?_
        refine RS.q rfl (QO.add (by rfl) (by rfl) (by omega) (by omega)) ?_
        refine RS.q rfl (QO.move) ?_
        refine RS.nil ?_
        refine loopQ_n (by intro t ht; repeat (first | with_reducible exact rfl | exact frame_puts ht (frame_mix ht) _ rfl | (refine frame_put rfl ht ?_) | (refine frame_puts ht ?_ _ rfl) | exact frame_mix ht | (refine frame_mix2 rfl ht ?_) | exact rfl)) ?_
        exact ⟨k + 1, ⟨by omega, firstE_go hz (hev.trans (evE1_0 (by assumption) (by omega) (by omega) (by omega) (by omega)))⟩, by omega, kn_cons (by rfl) (kn_cons (congrArg iv (show e.at_ + (e.out - e.inn) = endB l (k + 1) from hen.symm)) (kn_cons (congrArg Value.bool (show true = decide (0 < ((k + 1 : Nat) : Int)) from (decide_eq_true (by omega)).symm)) kn_nil)), (by repeat (first | exact List.Sublist.refl _ | exact List.nil_sublist _ | refine List.Sublist.cons_cons _ ?_ | refine List.Sublist.cons _ ?_ | exact Sbp.refl | exact Sbp.nil | refine Sbp.cons (by repeat (first | exact Rem.head | apply Rem.tail)) ?_ | exact Sbp.app | refine Sbp.skip ?_))⟩
      have hb43p := ne_of_beq_false hb43
      refine RS.off (dj := 81) rfl (.inl (congrArg Value.bool hb43)) (fun _ => rfl) rfl ?_
      refine RS.off (dj := 81) rfl (.inl (congrArg Value.bool hb43)) (fun _ => rfl) rfl ?_
      refine RS.off (dj := 81) rfl (.inl (congrArg Value.bool hb43)) (fun _ => rfl) rfl ?_
      refine RS.q rfl (QO.pickF (by rfl) hb43 (by rfl)) ?_
      refine RS.q rfl (QO.assign) ?_
      refine RS.nil ?_
      refine thenC_n ?_
      refine CS.condF (by rfl) rfl ?_
      refine CS.draw 31 rfl (by kernel_rfl) (by kernel_rfl) ?_
      refine RT.take (i := 0) rfl (by kernel_rfl) rfl (QO.fieldAddr fo134_1 (by rfl)) ?_
      refine RT.take (i := 1) rfl (by kernel_rfl) rfl (QO.load ty3 (by rfl) (by repeat (first | exact List.Mem.head _ | refine List.Mem.tail _ ?_)) (by rfl)) ?_
      refine RT.take (i := 2) rfl (by kernel_rfl) rfl (QO.eql (by rfl) (by rfl)) ?_
      refine RT.take (i := 3) rfl (by kernel_rfl) rfl (QO.move) ?_
      refine RT.split (dj := 89) (by rfl) (fun hb50 => ?_) (fun hb50 => ?_)
      · have hb50p := eq_of_beq hb50
        refine RT.takeOn (i := 4) (dj := 89) rfl rfl (congrArg Value.bool hb50) (by kernel_rfl) rfl (QO.fieldAddr fo134_2 (by rfl)) ?_
        refine RT.takeOn (i := 5) (dj := 89) rfl rfl (congrArg Value.bool hb50) (by kernel_rfl) rfl (QO.load ty3 (by rfl) (by repeat (first | exact List.Mem.head _ | refine List.Mem.tail _ ?_)) (by rfl)) ?_
        refine RT.takeOn (i := 6) (dj := 89) rfl rfl (congrArg Value.bool hb50) (by kernel_rfl) rfl (QO.lss (by rfl) (by rfl)) ?_
        refine RT.takeOn (i := 7) (dj := 89) rfl rfl (congrArg Value.bool hb50) (by kernel_rfl) rfl (QO.move) ?_
        refine RT.split (dj := 93) (by rfl) (fun hb51 => ?_) (fun hb51 => ?_)
        · have hb51p := of_decide_eq_true hb51
          refine RT.takeOff (i := 8) (dj := 93) rfl rfl (.inl (congrArg Value.bool hb51)) (fun _ => rfl) (by kernel_rfl) rfl ?_
          refine RT.takeOff (i := 9) (dj := 93) rfl rfl (.inl (congrArg Value.bool hb51)) (fun _ => rfl) (by kernel_rfl) rfl ?_
          refine RT.takeOff (i := 10) (dj := 93) rfl rfl (.inl (congrArg Value.bool hb51)) (fun _ => rfl) (by kernel_rfl) rfl ?_
          refine RT.takeOn (i := 11) (dj := 89) rfl rfl (congrArg Value.bool hb50) (by kernel_rfl) rfl (QO.pickT (by rfl) hb51 (by rfl)) ?_
          refine RT.takeOn (i := 12) (dj := 89) rfl rfl (congrArg Value.bool hb50) (by kernel_rfl) rfl (QO.move) ?_
          refine RT.takeOff (i := 13) (dj := 98) rfl rfl (.inl (congrArg Value.bool rfl)) (fun _ => rfl) (by kernel_rfl) rfl ?_
          refine RT.takeOff (i := 14) (dj := 98) rfl rfl (.inl (congrArg Value.bool rfl)) (fun _ => rfl) (by kernel_rfl) rfl ?_
          refine RT.takeOff (i := 15) (dj := 98) rfl rfl (.inl (congrArg Value.bool rfl)) (fun _ => rfl) (by kernel_rfl) rfl ?_
          refine RT.one (i := 16) (by kernel_rfl) rfl rfl ?_
          refine RS.off (dj := 98) rfl (.inl (congrArg Value.bool rfl)) (fun _ => rfl) rfl ?_
          refine RS.nil ⟨(by repeat (first | exact List.Sublist.refl _ | exact List.nil_sublist _ | refine List.Sublist.cons_cons _ ?_ | refine List.Sublist.cons _ ?_ | exact Sbp.refl | exact Sbp.nil | refine Sbp.cons (by repeat (first | exact Rem.head | apply Rem.tail)) ?_ | exact Sbp.app | refine Sbp.skip ?_)), ?_⟩
          refine RT.takeOff (i := 17) (dj := 98) rfl rfl (.inl (congrArg Value.bool rfl)) (fun _ => rfl) (by kernel_rfl) rfl ?_
          refine RT.takeOn (i := 18) (dj := 89) rfl rfl (congrArg Value.bool hb50) (by kernel_rfl) rfl (QO.pickT (by rfl) rfl (by rfl)) ?_
          refine RT.takeOn (i := 19) (dj := 89) rfl rfl (congrArg Value.bool hb50) (by kernel_rfl) rfl (QO.move) ?_
          refine RT.takeOff (i := 20) (dj := 105) rfl rfl (.inl (congrArg Value.bool rfl)) (fun _ => rfl) (by kernel_rfl) rfl ?_
          refine RT.takeOff (i := 21) (dj := 105) rfl rfl (.inl (congrArg Value.bool rfl)) (fun _ => rfl) (by kernel_rfl) rfl ?_
          refine RT.takeOn (i := 22) (dj := 89) rfl rfl (congrArg Value.bool hb50) (by kernel_rfl) rfl (QO.pickT (by rfl) rfl (by rfl)) ?_
          refine RT.takeOn (i := 23) (dj := 89) rfl rfl (congrArg Value.bool hb50) (by kernel_rfl) rfl (QO.move) ?_
          refine RT.takeOff (i := 24) (dj := 109) rfl rfl (.inl (congrArg Value.bool rfl)) (fun _ => rfl) (by kernel_rfl) rfl ?_
          refine RT.takeOff (i := 25) (dj := 109) rfl rfl (.inl (congrArg Value.bool rfl)) (fun _ => rfl) (by kernel_rfl) rfl ?_
          refine RT.takeOff (i := 26) (dj := 109) rfl rfl (.inl (congrArg Value.bool rfl)) (fun _ => rfl) (by kernel_rfl) rfl ?_
          refine RT.takeOff (i := 27) (dj := 109) rfl rfl (.inl (congrArg Value.bool rfl)) (fun _ => rfl) (by kernel_rfl) rfl ?_
          refine RT.takeOn (i := 28) (dj := 89) rfl rfl (congrArg Value.bool hb50) (by kernel_rfl) rfl (QO.pickT (by rfl) rfl (by rfl)) ?_
          refine RT.take (i := 29) rfl (by kernel_rfl) rfl (QO.pickT (by rfl) hb50 (by rfl)) ?_
          refine RT.take (i := 30) rfl (by kernel_rfl) rfl (QO.assign) ?_
          refine RT.done (by kernel_rfl) ?_
          refine thenC_n ?_
          refine CS.condT (by rfl) rfl ?_
          refine CS.seq ?_
          refine CS.region ?_
          refine RS.q rfl (QO.assign) ?_
          refine RS.nil ?_
          refine thenC_n ?_
          refine CS.ret ?_
          refine blockC_r ?_
          refine thenC_r ?_
          refine blockC_r ?_
          refine thenC_r ?_
          refine loopQ_r ?_
          refine blockC_r ?_
          refine thenC_r ?_
          refine retQ.mk (H' := []) (.inr rfl) (RVs.tmp (by rfl) RVs.nil) (List.nil_sublist _) ?_
          exact ⟨congrArg iv (edE_at hn hs hlen hz (by omega) (hev.trans (evE1_12 (by assumption) (by omega) (by omega) (by omega) (by omega))) (by decide)).symm, rfl⟩
        have hb51p := of_decide_eq_false hb51
        refine RT.takeOn (i := 8) (dj := 93) rfl rfl (congrArg Value.bool hb51) (by kernel_rfl) rfl (QO.fieldAddr fo134_2 (by rfl)) ?_
        refine RT.takeOn (i := 9) (dj := 93) rfl rfl (congrArg Value.bool hb51) (by kernel_rfl) rfl (QO.load ty3 (by rfl) (by repeat (first | exact List.Mem.head _ | refine List.Mem.tail _ ?_)) (by rfl)) ?_
        refine RT.takeOn (i := 10) (dj := 93) rfl rfl (congrArg Value.bool hb51) (by kernel_rfl) rfl (QO.gtr (by rfl) (by rfl)) ?_
        refine RT.takeOn (i := 11) (dj := 89) rfl rfl (congrArg Value.bool hb50) (by kernel_rfl) rfl (QO.pickF (by rfl) hb51 (by rfl)) ?_
        refine RT.takeOn (i := 12) (dj := 89) rfl rfl (congrArg Value.bool hb50) (by kernel_rfl) rfl (QO.move) ?_
        refine RT.split (dj := 98) (by rfl) (fun hb52 => ?_) (fun hb52 => ?_)
        · have hb52p := of_decide_eq_true hb52
          refine RT.takeOff (i := 13) (dj := 98) rfl rfl (.inl (congrArg Value.bool hb52)) (fun _ => rfl) (by kernel_rfl) rfl ?_
          refine RT.takeOff (i := 14) (dj := 98) rfl rfl (.inl (congrArg Value.bool hb52)) (fun _ => rfl) (by kernel_rfl) rfl ?_
          refine RT.takeOff (i := 15) (dj := 98) rfl rfl (.inl (congrArg Value.bool hb52)) (fun _ => rfl) (by kernel_rfl) rfl ?_
          refine RT.one (i := 16) (by kernel_rfl) rfl rfl ?_
          refine RS.off (dj := 98) rfl (.inl (congrArg Value.bool hb52)) (fun _ => rfl) rfl ?_
          refine RS.nil ⟨(by repeat (first | exact List.Sublist.refl _ | exact List.nil_sublist _ | refine List.Sublist.cons_cons _ ?_ | refine List.Sublist.cons _ ?_ | exact Sbp.refl | exact Sbp.nil | refine Sbp.cons (by repeat (first | exact Rem.head | apply Rem.tail)) ?_ | exact Sbp.app | refine Sbp.skip ?_)), ?_⟩
          refine RT.takeOff (i := 17) (dj := 98) rfl rfl (.inl (congrArg Value.bool hb52)) (fun _ => rfl) (by kernel_rfl) rfl ?_
          refine RT.takeOn (i := 18) (dj := 89) rfl rfl (congrArg Value.bool hb50) (by kernel_rfl) rfl (QO.pickT (by rfl) hb52 (by rfl)) ?_
          refine RT.takeOn (i := 19) (dj := 89) rfl rfl (congrArg Value.bool hb50) (by kernel_rfl) rfl (QO.move) ?_
          refine RT.takeOff (i := 20) (dj := 105) rfl rfl (.inl (congrArg Value.bool rfl)) (fun _ => rfl) (by kernel_rfl) rfl ?_
          refine RT.takeOff (i := 21) (dj := 105) rfl rfl (.inl (congrArg Value.bool rfl)) (fun _ => rfl) (by kernel_rfl) rfl ?_
          refine RT.takeOn (i := 22) (dj := 89) rfl rfl (congrArg Value.bool hb50) (by kernel_rfl) rfl (QO.pickT (by rfl) rfl (by rfl)) ?_
          refine RT.takeOn (i := 23) (dj := 89) rfl rfl (congrArg Value.bool hb50) (by kernel_rfl) rfl (QO.move) ?_
          refine RT.takeOff (i := 24) (dj := 109) rfl rfl (.inl (congrArg Value.bool rfl)) (fun _ => rfl) (by kernel_rfl) rfl ?_
          refine RT.takeOff (i := 25) (dj := 109) rfl rfl (.inl (congrArg Value.bool rfl)) (fun _ => rfl) (by kernel_rfl) rfl ?_
          refine RT.takeOff (i := 26) (dj := 109) rfl rfl (.inl (congrArg Value.bool rfl)) (fun _ => rfl) (by kernel_rfl) rfl ?_
          refine RT.takeOff (i := 27) (dj := 109) rfl rfl (.inl (congrArg Value.bool rfl)) (fun _ => rfl) (by kernel_rfl) rfl ?_
          refine RT.takeOn (i := 28) (dj := 89) rfl rfl (congrArg Value.bool hb50) (by kernel_rfl) rfl (QO.pickT (by rfl) rfl (by rfl)) ?_
          refine RT.take (i := 29) rfl (by kernel_rfl) rfl (QO.pickT (by rfl) hb50 (by rfl)) ?_
          refine RT.take (i := 30) rfl (by kernel_rfl) rfl (QO.assign) ?_
          refine RT.done (by kernel_rfl) ?_
          refine thenC_n ?_
          refine CS.condT (by rfl) rfl ?_
          refine CS.seq ?_
          refine CS.region ?_
          refine RS.q rfl (QO.assign) ?_
          refine RS.nil ?_
          refine thenC_n ?_
          refine CS.ret ?_
          refine blockC_r ?_
          refine thenC_r ?_
          refine blockC_r ?_
          refine thenC_r ?_
          refine loopQ_r ?_
          refine blockC_r ?_
          refine thenC_r ?_
          refine retQ.mk (H' := []) (.inr rfl) (RVs.tmp (by rfl) RVs.nil) (List.nil_sublist _) ?_
          exact ⟨congrArg iv (edE_at hn hs hlen hz (by omega) (hev.trans (evE1_12 (by assumption) (by omega) (by omega) (by omega) (by omega))) (by decide)).symm, rfl⟩
        have hb52p := of_decide_eq_false hb52
        refine RT.takeOn (i := 13) (dj := 98) rfl rfl (congrArg Value.bool hb52) (by kernel_rfl) rfl (QO.fieldAddr fo134_2 (by rfl)) ?_
        refine RT.takeOn (i := 14) (dj := 98) rfl rfl (congrArg Value.bool hb52) (by kernel_rfl) rfl (QO.load ty3 (by rfl) (by repeat (first | exact List.Mem.head _ | refine List.Mem.tail _ ?_)) (by rfl)) ?_
        refine RT.takeOn (i := 15) (dj := 98) rfl rfl (congrArg Value.bool hb52) (by kernel_rfl) rfl (QO.loadB ty134 (by rfl) (by repeat (first | exact List.Mem.head _ | refine List.Mem.tail _ ?_)) (by rfl)) ?_
        refine RT.one (i := 16) (by kernel_rfl) rfl rfl ?_
        refine RS.on (dj := 98) rfl (congrArg Value.bool hb52) ?_
        refine RS.call rfl (by rfl) ok97 (by rfl) (fun w ho => long_ e _ (by omega)) ?_
        rintro _ _ ⟨rfl, rfl⟩
        refine RS.nil ⟨(by repeat (first | exact List.Sublist.refl _ | exact List.nil_sublist _ | refine List.Sublist.cons_cons _ ?_ | refine List.Sublist.cons _ ?_ | exact Sbp.refl | exact Sbp.nil | refine Sbp.cons (by repeat (first | exact Rem.head | apply Rem.tail)) ?_ | exact Sbp.app | refine Sbp.skip ?_)), ?_⟩
        refine RT.takeOn (i := 17) (dj := 98) rfl rfl (congrArg Value.bool hb52) (by kernel_rfl) rfl (QO.gtr (by rfl) (by rfl)) ?_
        refine RT.takeOn (i := 18) (dj := 89) rfl rfl (congrArg Value.bool hb50) (by kernel_rfl) rfl (QO.pickF (by rfl) hb52 (by rfl)) ?_
        refine RT.takeOn (i := 19) (dj := 89) rfl rfl (congrArg Value.bool hb50) (by kernel_rfl) rfl (QO.move) ?_
        refine RT.split (dj := 105) (by rfl) (fun hb53 => ?_) (fun hb53 => ?_)
        · have hb53p := of_decide_eq_true hb53
          refine RT.takeOff (i := 20) (dj := 105) rfl rfl (.inl (congrArg Value.bool hb53)) (fun _ => rfl) (by kernel_rfl) rfl ?_
          refine RT.takeOff (i := 21) (dj := 105) rfl rfl (.inl (congrArg Value.bool hb53)) (fun _ => rfl) (by kernel_rfl) rfl ?_
          refine RT.takeOn (i := 22) (dj := 89) rfl rfl (congrArg Value.bool hb50) (by kernel_rfl) rfl (QO.pickT (by rfl) hb53 (by rfl)) ?_
          refine RT.takeOn (i := 23) (dj := 89) rfl rfl (congrArg Value.bool hb50) (by kernel_rfl) rfl (QO.move) ?_
          refine RT.takeOff (i := 24) (dj := 109) rfl rfl (.inl (congrArg Value.bool rfl)) (fun _ => rfl) (by kernel_rfl) rfl ?_
          refine RT.takeOff (i := 25) (dj := 109) rfl rfl (.inl (congrArg Value.bool rfl)) (fun _ => rfl) (by kernel_rfl) rfl ?_
          refine RT.takeOff (i := 26) (dj := 109) rfl rfl (.inl (congrArg Value.bool rfl)) (fun _ => rfl) (by kernel_rfl) rfl ?_
          refine RT.takeOff (i := 27) (dj := 109) rfl rfl (.inl (congrArg Value.bool rfl)) (fun _ => rfl) (by kernel_rfl) rfl ?_
          refine RT.takeOn (i := 28) (dj := 89) rfl rfl (congrArg Value.bool hb50) (by kernel_rfl) rfl (QO.pickT (by rfl) rfl (by rfl)) ?_
          refine RT.take (i := 29) rfl (by kernel_rfl) rfl (QO.pickT (by rfl) hb50 (by rfl)) ?_
          refine RT.take (i := 30) rfl (by kernel_rfl) rfl (QO.assign) ?_
          refine RT.done (by kernel_rfl) ?_
          refine thenC_n ?_
          refine CS.condT (by rfl) rfl ?_
          refine CS.seq ?_
          refine CS.region ?_
          refine RS.q rfl (QO.assign) ?_
          refine RS.nil ?_
          refine thenC_n ?_
          refine CS.ret ?_
          refine blockC_r ?_
          refine thenC_r ?_
          refine blockC_r ?_
          refine thenC_r ?_
          refine loopQ_r ?_
          refine blockC_r ?_
          refine thenC_r ?_
          refine retQ.mk (H' := []) (.inr rfl) (RVs.tmp (by rfl) RVs.nil) (List.nil_sublist _) ?_
          exact ⟨congrArg iv (edE_at hn hs hlen hz (by omega) (hev.trans (evE1_12 (by assumption) (by omega) (by omega) (by omega) (by omega))) (by decide)).symm, rfl⟩
        have hb53p := of_decide_eq_false hb53
        refine RT.takeOn (i := 20) (dj := 105) rfl rfl (congrArg Value.bool hb53) (by kernel_rfl) rfl (QO.move) ?_
        refine RT.takeOn (i := 21) (dj := 105) rfl rfl (congrArg Value.bool hb53) (by kernel_rfl) rfl (QO.not (by rfl)) ?_
        refine RT.takeOn (i := 22) (dj := 89) rfl rfl (congrArg Value.bool hb50) (by kernel_rfl) rfl (QO.pickF (by rfl) hb53 (by rfl)) ?_
        refine RT.takeOn (i := 23) (dj := 89) rfl rfl (congrArg Value.bool hb50) (by kernel_rfl) rfl (QO.move) ?_
        refine RT.takeOn (i := 24) (dj := 109) rfl rfl (congrArg Value.bool (by rw [hb41] <;> rfl)) (by kernel_rfl) rfl (QO.fieldAddr fo134_5 (by rfl)) ?_
        refine RT.takeOn (i := 25) (dj := 109) rfl rfl (congrArg Value.bool (by rw [hb41] <;> rfl)) (by kernel_rfl) rfl (QO.load ty3 (by rfl) (by repeat (first | exact List.Mem.head _ | refine List.Mem.tail _ ?_)) (by rfl)) ?_
        refine RT.takeOn (i := 26) (dj := 109) rfl rfl (congrArg Value.bool (by rw [hb41] <;> rfl)) (by kernel_rfl) rfl (QO.move) ?_
        refine RT.takeOn (i := 27) (dj := 109) rfl rfl (congrArg Value.bool (by rw [hb41] <;> rfl)) (by kernel_rfl) rfl (QO.neq (by rfl) (by rfl)) ?_
        refine RT.takeOn (i := 28) (dj := 89) rfl rfl (congrArg Value.bool hb50) (by kernel_rfl) rfl (QO.pickF (by rfl) (by rw [hb41] <;> rfl) (by rfl)) ?_
        refine RT.take (i := 29) rfl (by kernel_rfl) rfl (QO.pickT (by rfl) hb50 (by rfl)) ?_
        refine RT.take (i := 30) rfl (by kernel_rfl) rfl (QO.assign) ?_
        refine RT.done (by kernel_rfl) ?_
        refine thenC_n ?_
        refine CS.cond (by rfl) (fun hb54 => ?_) (fun hb54 => ?_)
        · have hb54p := bne_iff_ne.1 hb54
          refine CS.seq ?_
          refine CS.region ?_
          refine RS.q rfl (QO.assign) ?_
          refine RS.nil ?_
          refine thenC_n ?_
          refine CS.ret ?_
          refine blockC_r ?_
          refine thenC_r ?_
          refine blockC_r ?_
          refine thenC_r ?_
          refine loopQ_r ?_
          refine blockC_r ?_
          refine thenC_r ?_
          refine retQ.mk (H' := []) (.inr rfl) (RVs.tmp (by rfl) RVs.nil) (List.nil_sublist _) ?_
          exact ⟨congrArg iv (edE_at hn hs hlen hz (by omega) (hev.trans (evE1_12 (by assumption) (by omega) (by omega) (by omega) (by omega))) (by decide)).symm, rfl⟩
        have hb54p := of_bne_false hb54
        refine CS.skip ?_
        refine blockC_n ?_
        refine thenC_n ?_
        refine CS.draw 7 rfl (by kernel_rfl) (by kernel_rfl) ?_
        refine RT.take (i := 0) rfl (by kernel_rfl) rfl (QO.fieldAddr fo134_5 (by rfl)) ?_
        refine RT.take (i := 1) rfl (by kernel_rfl) rfl (QO.load ty3 (by rfl) (by repeat (first | exact List.Mem.head _ | refine List.Mem.tail _ ?_)) (by rfl)) ?_
        refine RT.take (i := 2) rfl (by kernel_rfl) rfl (QO.loadB ty134 (by rfl) (by repeat (first | exact List.Mem.head _ | refine List.Mem.tail _ ?_)) (by rfl)) ?_
        refine RT.one (i := 3) (by kernel_rfl) rfl rfl ?_
        refine RS.call rfl (by rfl) ok97 (by rfl) (fun w ho => long_ e _ (by omega)) ?_
        rintro _ _ ⟨rfl, rfl⟩
        refine RS.nil ⟨(by repeat (first | exact List.Sublist.refl _ | exact List.nil_sublist _ | refine List.Sublist.cons_cons _ ?_ | refine List.Sublist.cons _ ?_ | exact Sbp.refl | exact Sbp.nil | refine Sbp.cons (by repeat (first | exact Rem.head | apply Rem.tail)) ?_ | exact Sbp.app | refine Sbp.skip ?_)), ?_⟩
        refine RT.take (i := 4) rfl (by kernel_rfl) rfl (QO.add (by rfl) (by rfl) (by omega) (by omega)) ?_
        refine RT.take (i := 5) rfl (by kernel_rfl) rfl (QO.assign) ?_
        refine RT.take (i := 6) rfl (by kernel_rfl) rfl (QO.assign) ?_
        refine RT.done (by kernel_rfl) ?_
        refine blockC_n ?_
        refine thenC_n ?_
        refine CS.region ?_
        refine RS.q rfl (QO.add (by rfl) (by rfl) (by omega) (by omega)) ?_
        refine RS.q rfl (QO.move) ?_
        refine RS.nil ?_
        refine loopQ_n (by intro t ht; repeat (first | with_reducible exact rfl | exact frame_puts ht (frame_mix ht) _ rfl | (refine frame_put rfl ht ?_) | (refine frame_puts ht ?_ _ rfl) | exact frame_mix ht | (refine frame_mix2 rfl ht ?_) | exact rfl)) ?_
        exact ⟨k + 1, ⟨by omega, firstE_go hz (hev.trans (evE1_0 (by assumption) (by omega) (by omega) (by omega) (by omega)))⟩, by omega, kn_cons (by rfl) (kn_cons (congrArg iv (show e.at_ + (e.out - e.inn) = endB l (k + 1) from hen.symm)) (kn_cons (congrArg Value.bool (show true = decide (0 < ((k + 1 : Nat) : Int)) from (decide_eq_true (by omega)).symm)) kn_nil)), (by repeat (first | exact List.Sublist.refl _ | exact List.nil_sublist _ | refine List.Sublist.cons_cons _ ?_ | refine List.Sublist.cons _ ?_ | exact Sbp.refl | exact Sbp.nil | refine Sbp.cons (by repeat (first | exact Rem.head | apply Rem.tail)) ?_ | exact Sbp.app | refine Sbp.skip ?_))⟩
      have hb50p := ne_of_beq_false hb50
      refine RT.takeOff (i := 4) (dj := 89) rfl rfl (.inl (congrArg Value.bool hb50)) (fun _ => rfl) (by kernel_rfl) rfl ?_
      refine RT.takeOff (i := 5) (dj := 89) rfl rfl (.inl (congrArg Value.bool hb50)) (fun _ => rfl) (by kernel_rfl) rfl ?_
      refine RT.takeOff (i := 6) (dj := 89) rfl rfl (.inl (congrArg Value.bool hb50)) (fun _ => rfl) (by kernel_rfl) rfl ?_
      refine RT.takeOff (i := 7) (dj := 89) rfl rfl (.inl (congrArg Value.bool hb50)) (fun _ => rfl) (by kernel_rfl) rfl ?_
      refine RT.takeOff (i := 8) (dj := 93) (c := true) rfl rfl (.inr rfl) (fun h => by cases h) (by kernel_rfl) rfl ?_
      refine RT.takeOff (i := 9) (dj := 93) (c := true) rfl rfl (.inr rfl) (fun h => by cases h) (by kernel_rfl) rfl ?_
      refine RT.takeOff (i := 10) (dj := 93) (c := true) rfl rfl (.inr rfl) (fun h => by cases h) (by kernel_rfl) rfl ?_
      refine RT.takeOff (i := 11) (dj := 89) rfl rfl (.inl (congrArg Value.bool hb50)) (fun _ => rfl) (by kernel_rfl) rfl ?_
      refine RT.takeOff (i := 12) (dj := 89) rfl rfl (.inl (congrArg Value.bool hb50)) (fun _ => rfl) (by kernel_rfl) rfl ?_
      refine RT.takeOff (i := 13) (dj := 98) (c := true) rfl rfl (.inr rfl) (fun h => by cases h) (by kernel_rfl) rfl ?_
      refine RT.takeOff (i := 14) (dj := 98) (c := true) rfl rfl (.inr rfl) (fun h => by cases h) (by kernel_rfl) rfl ?_
      refine RT.takeOff (i := 15) (dj := 98) (c := true) rfl rfl (.inr rfl) (fun h => by cases h) (by kernel_rfl) rfl ?_
      refine RT.one (i := 16) (by kernel_rfl) rfl rfl ?_
      refine RS.off (dj := 98) (c := true) rfl (.inr rfl) (fun h => by cases h) rfl ?_
      refine RS.nil ⟨(by repeat (first | exact List.Sublist.refl _ | exact List.nil_sublist _ | refine List.Sublist.cons_cons _ ?_ | refine List.Sublist.cons _ ?_ | exact Sbp.refl | exact Sbp.nil | refine Sbp.cons (by repeat (first | exact Rem.head | apply Rem.tail)) ?_ | exact Sbp.app | refine Sbp.skip ?_)), ?_⟩
      refine RT.takeOff (i := 17) (dj := 98) (c := true) rfl rfl (.inr rfl) (fun h => by cases h) (by kernel_rfl) rfl ?_
      refine RT.takeOff (i := 18) (dj := 89) rfl rfl (.inl (congrArg Value.bool hb50)) (fun _ => rfl) (by kernel_rfl) rfl ?_
      refine RT.takeOff (i := 19) (dj := 89) rfl rfl (.inl (congrArg Value.bool hb50)) (fun _ => rfl) (by kernel_rfl) rfl ?_
      refine RT.takeOff (i := 20) (dj := 105) (c := true) rfl rfl (.inr rfl) (fun h => by cases h) (by kernel_rfl) rfl ?_
      refine RT.takeOff (i := 21) (dj := 105) (c := true) rfl rfl (.inr rfl) (fun h => by cases h) (by kernel_rfl) rfl ?_
      refine RT.takeOff (i := 22) (dj := 89) rfl rfl (.inl (congrArg Value.bool hb50)) (fun _ => rfl) (by kernel_rfl) rfl ?_
      refine RT.takeOff (i := 23) (dj := 89) rfl rfl (.inl (congrArg Value.bool hb50)) (fun _ => rfl) (by kernel_rfl) rfl ?_
      refine RT.takeOff (i := 24) (dj := 109) (c := true) rfl rfl (.inr rfl) (fun h => by cases h) (by kernel_rfl) rfl ?_
      refine RT.takeOff (i := 25) (dj := 109) (c := true) rfl rfl (.inr rfl) (fun h => by cases h) (by kernel_rfl) rfl ?_
      refine RT.takeOff (i := 26) (dj := 109) (c := true) rfl rfl (.inr rfl) (fun h => by cases h) (by kernel_rfl) rfl ?_
      refine RT.takeOff (i := 27) (dj := 109) (c := true) rfl rfl (.inr rfl) (fun h => by cases h) (by kernel_rfl) rfl ?_
      refine RT.takeOff (i := 28) (dj := 89) rfl rfl (.inl (congrArg Value.bool hb50)) (fun _ => rfl) (by kernel_rfl) rfl ?_
      refine RT.take (i := 29) rfl (by kernel_rfl) rfl (QO.pickF (by rfl) hb50 (by rfl)) ?_
      refine RT.take (i := 30) rfl (by kernel_rfl) rfl (QO.assign) ?_
      refine RT.done (by kernel_rfl) ?_
      refine thenC_n ?_
      refine CS.condF (by rfl) rfl ?_
      refine CS.skip ?_
      refine blockC_n ?_
      refine thenC_n ?_
      refine CS.draw 7 rfl (by kernel_rfl) (by kernel_rfl) ?_
      refine RT.take (i := 0) rfl (by kernel_rfl) rfl (QO.fieldAddr fo134_5 (by rfl)) ?_
      refine RT.take (i := 1) rfl (by kernel_rfl) rfl (QO.load ty3 (by rfl) (by repeat (first | exact List.Mem.head _ | refine List.Mem.tail _ ?_)) (by rfl)) ?_
      refine RT.take (i := 2) rfl (by kernel_rfl) rfl (QO.loadB ty134 (by rfl) (by repeat (first | exact List.Mem.head _ | refine List.Mem.tail _ ?_)) (by rfl)) ?_
      refine RT.one (i := 3) (by kernel_rfl) rfl rfl ?_
      refine RS.call rfl (by rfl) ok97 (by rfl) (fun w ho => long_ e _ (by omega)) ?_
      rintro _ _ ⟨rfl, rfl⟩
      refine RS.nil ⟨(by repeat (first | exact List.Sublist.refl _ | exact List.nil_sublist _ | refine List.Sublist.cons_cons _ ?_ | refine List.Sublist.cons _ ?_ | exact Sbp.refl | exact Sbp.nil | refine Sbp.cons (by repeat (first | exact Rem.head | apply Rem.tail)) ?_ | exact Sbp.app | refine Sbp.skip ?_)), ?_⟩
      refine RT.take (i := 4) rfl (by kernel_rfl) rfl (QO.add (by rfl) (by rfl) (by omega) (by omega)) ?_
      refine RT.take (i := 5) rfl (by kernel_rfl) rfl (QO.assign) ?_
      refine RT.take (i := 6) rfl (by kernel_rfl) rfl (QO.assign) ?_
      refine RT.done (by kernel_rfl) ?_
      refine blockC_n ?_
      refine thenC_n ?_
      refine CS.region ?_
      refine RS.q rfl (QO.add (by rfl) (by rfl) (by omega) (by omega)) ?_
      refine RS.q rfl (QO.move) ?_
      refine RS.nil ?_
      refine loopQ_n (by intro t ht; repeat (first | with_reducible exact rfl | exact frame_puts ht (frame_mix ht) _ rfl | (refine frame_put rfl ht ?_) | (refine frame_puts ht ?_ _ rfl) | exact frame_mix ht | (refine frame_mix2 rfl ht ?_) | exact rfl)) ?_
      exact ⟨k + 1, ⟨by omega, firstE_go hz (hev.trans (evE1_0 (by assumption) (by omega) (by omega) (by omega) (by omega)))⟩, by omega, kn_cons (by rfl) (kn_cons (congrArg iv (show e.at_ + (e.out - e.inn) = endB l (k + 1) from hen.symm)) (kn_cons (congrArg Value.bool (show true = decide (0 < ((k + 1 : Nat) : Int)) from (decide_eq_true (by omega)).symm)) kn_nil)), (by repeat (first | exact List.Sublist.refl _ | exact List.nil_sublist _ | refine List.Sublist.cons_cons _ ?_ | refine List.Sublist.cons _ ?_ | exact Sbp.refl | exact Sbp.nil | refine Sbp.cons (by repeat (first | exact Rem.head | apply Rem.tail)) ?_ | exact Sbp.app | refine Sbp.skip ?_))⟩
    have hb41p := of_decide_eq_false hb41
    refine RS.off (dj := 71) rfl (.inl (congrArg Value.bool hb41)) (fun _ => rfl) rfl ?_
    refine RS.off (dj := 71) rfl (.inl (congrArg Value.bool hb41)) (fun _ => rfl) rfl ?_
    refine RS.off (dj := 71) rfl (.inl (congrArg Value.bool hb41)) (fun _ => rfl) rfl ?_
    refine RS.off (dj := 71) rfl (.inl (congrArg Value.bool hb41)) (fun _ => rfl) rfl ?_
    refine RS.q rfl (QO.pickF (by rfl) hb41 (by rfl)) ?_
    refine RS.q rfl (QO.assign) ?_
    refine RS.nil ?_
    refine thenC_n ?_
    refine CS.condF (by rfl) rfl ?_
    refine CS.seq ?_
    refine CS.seq ?_
    refine CS.region ?_
    refine RS.q rfl (QO.fieldAddr fo134_1 (by rfl)) ?_
    refine RS.q rfl (QO.load ty3 (by rfl) (by repeat (first | exact List.Mem.head _ | refine List.Mem.tail _ ?_)) (by rfl)) ?_
    refine RS.q rfl (QO.eql (by rfl) (by rfl)) ?_
    refine RS.q rfl (QO.move) ?_
    refine RS.split (dj := 81) (by rfl) (fun hb55 => ?_) (fun hb55 => ?_)
    · have hb55p := eq_of_beq hb55
      refine RS.on (dj := 81) rfl (congrArg Value.bool hb55) ?_
      refine RS.q rfl (QO.fieldAddr fo134_2 (by rfl)) ?_
      refine RS.on (dj := 81) rfl (congrArg Value.bool hb55) ?_
      refine RS.q rfl (QO.load ty3 (by rfl) (by repeat (first | exact List.Mem.head _ | refine List.Mem.tail _ ?_)) (by rfl)) ?_
      refine RS.on (dj := 81) rfl (congrArg Value.bool hb55) ?_
      refine RS.q rfl (QO.neq (by rfl) (by rfl)) ?_
      refine RS.q rfl (QO.pickT (by rfl) hb55 (by rfl)) ?_
      refine RS.q rfl (QO.assign) ?_
      refine RS.nil ?_
      refine thenC_n ?_
      refine CS.cond (by rfl) (fun hb56 => ?_) (fun hb56 => ?_)
      · have hb56p := bne_iff_ne.1 hb56
        refine CS.skip ?_
        refine thenC_n ?_
        refine CS.condT (by rfl) hb56 ?_
        refine CS.seq ?_
        refine CS.region ?_
        refine RS.q rfl (QO.assign) ?_
        refine RS.nil ?_
        refine thenC_n ?_
        refine CS.ret ?_
        refine blockC_r ?_
        refine thenC_r ?_
        refine blockC_r ?_
        refine thenC_r ?_
        refine loopQ_r ?_
        refine blockC_r ?_
        refine thenC_r ?_
        refine retQ.mk (H' := []) (.inr rfl) (RVs.tmp (by rfl) RVs.nil) (List.nil_sublist _) ?_
        exact ⟨congrArg iv (edE_at hn hs hlen hz (by omega) (hev.trans (evE1_12 (by assumption) (by omega) (by omega) (by omega) (by omega))) (by decide)).symm, rfl⟩
      have hb56p := of_bne_false hb56
      refine CS.draw 31 rfl (by kernel_rfl) (by kernel_rfl) ?_
      refine RT.take (i := 0) rfl (by kernel_rfl) rfl (QO.fieldAddr fo134_1 (by rfl)) ?_
      refine RT.take (i := 1) rfl (by kernel_rfl) rfl (QO.load ty3 (by rfl) (by repeat (first | exact List.Mem.head _ | refine List.Mem.tail _ ?_)) (by rfl)) ?_
      refine RT.take (i := 2) rfl (by kernel_rfl) rfl (QO.eql (by rfl) (by rfl)) ?_
      refine RT.take (i := 3) rfl (by kernel_rfl) rfl (QO.move) ?_
      refine RT.split (dj := 89) (by rfl) (fun hb57 => ?_) (fun hb57 => ?_)
      · have hb57p := eq_of_beq hb57
        refine RT.takeOn (i := 4) (dj := 89) rfl rfl (congrArg Value.bool hb57) (by kernel_rfl) rfl (QO.fieldAddr fo134_2 (by rfl)) ?_
        refine RT.takeOn (i := 5) (dj := 89) rfl rfl (congrArg Value.bool hb57) (by kernel_rfl) rfl (QO.load ty3 (by rfl) (by repeat (first | exact List.Mem.head _ | refine List.Mem.tail _ ?_)) (by rfl)) ?_
        refine RT.takeOn (i := 6) (dj := 89) rfl rfl (congrArg Value.bool hb57) (by kernel_rfl) rfl (QO.lss (by rfl) (by rfl)) ?_
        refine RT.takeOn (i := 7) (dj := 89) rfl rfl (congrArg Value.bool hb57) (by kernel_rfl) rfl (QO.move) ?_
        refine RT.split (dj := 93) (by rfl) (fun hb58 => ?_) (fun hb58 => ?_)
        · have hb58p := of_decide_eq_true hb58
          refine RT.takeOff (i := 8) (dj := 93) rfl rfl (.inl (congrArg Value.bool hb58)) (fun _ => rfl) (by kernel_rfl) rfl ?_
          refine RT.takeOff (i := 9) (dj := 93) rfl rfl (.inl (congrArg Value.bool hb58)) (fun _ => rfl) (by kernel_rfl) rfl ?_
          refine RT.takeOff (i := 10) (dj := 93) rfl rfl (.inl (congrArg Value.bool hb58)) (fun _ => rfl) (by kernel_rfl) rfl ?_
          refine RT.takeOn (i := 11) (dj := 89) rfl rfl (congrArg Value.bool hb57) (by kernel_rfl) rfl (QO.pickT (by rfl) hb58 (by rfl)) ?_
          refine RT.takeOn (i := 12) (dj := 89) rfl rfl (congrArg Value.bool hb57) (by kernel_rfl) rfl (QO.move) ?_
          refine RT.takeOff (i := 13) (dj := 98) rfl rfl (.inl (congrArg Value.bool rfl)) (fun _ => rfl) (by kernel_rfl) rfl ?_
          refine RT.takeOff (i := 14) (dj := 98) rfl rfl (.inl (congrArg Value.bool rfl)) (fun _ => rfl) (by kernel_rfl) rfl ?_
          refine RT.takeOff (i := 15) (dj := 98) rfl rfl (.inl (congrArg Value.bool rfl)) (fun _ => rfl) (by kernel_rfl) rfl ?_
          refine RT.one (i := 16) (by kernel_rfl) rfl rfl ?_
          refine RS.off (dj := 98) rfl (.inl (congrArg Value.bool rfl)) (fun _ => rfl) rfl ?_
          refine RS.nil ⟨(by repeat (first | exact List.Sublist.refl _ | exact List.nil_sublist _ | refine List.Sublist.cons_cons _ ?_ | refine List.Sublist.cons _ ?_ | exact Sbp.refl | exact Sbp.nil | refine Sbp.cons (by repeat (first | exact Rem.head | apply Rem.tail)) ?_ | exact Sbp.app | refine Sbp.skip ?_)), ?_⟩
          refine RT.takeOff (i := 17) (dj := 98) rfl rfl (.inl (congrArg Value.bool rfl)) (fun _ => rfl) (by kernel_rfl) rfl ?_
          refine RT.takeOn (i := 18) (dj := 89) rfl rfl (congrArg Value.bool hb57) (by kernel_rfl) rfl (QO.pickT (by rfl) rfl (by rfl)) ?_
          refine RT.takeOn (i := 19) (dj := 89) rfl rfl (congrArg Value.bool hb57) (by kernel_rfl) rfl (QO.move) ?_
          refine RT.takeOff (i := 20) (dj := 105) rfl rfl (.inl (congrArg Value.bool rfl)) (fun _ => rfl) (by kernel_rfl) rfl ?_
          refine RT.takeOff (i := 21) (dj := 105) rfl rfl (.inl (congrArg Value.bool rfl)) (fun _ => rfl) (by kernel_rfl) rfl ?_
          refine RT.takeOn (i := 22) (dj := 89) rfl rfl (congrArg Value.bool hb57) (by kernel_rfl) rfl (QO.pickT (by rfl) rfl (by rfl)) ?_
          refine RT.takeOn (i := 23) (dj := 89) rfl rfl (congrArg Value.bool hb57) (by kernel_rfl) rfl (QO.move) ?_
          refine RT.takeOff (i := 24) (dj := 109) rfl rfl (.inl (congrArg Value.bool rfl)) (fun _ => rfl) (by kernel_rfl) rfl ?_
          refine RT.takeOff (i := 25) (dj := 109) rfl rfl (.inl (congrArg Value.bool rfl)) (fun _ => rfl) (by kernel_rfl) rfl ?_
          refine RT.takeOff (i := 26) (dj := 109) rfl rfl (.inl (congrArg Value.bool rfl)) (fun _ => rfl) (by kernel_rfl) rfl ?_
          refine RT.takeOff (i := 27) (dj := 109) rfl rfl (.inl (congrArg Value.bool rfl)) (fun _ => rfl) (by kernel_rfl) rfl ?_
          refine RT.takeOn (i := 28) (dj := 89) rfl rfl (congrArg Value.bool hb57) (by kernel_rfl) rfl (QO.pickT (by rfl) rfl (by rfl)) ?_
          refine RT.take (i := 29) rfl (by kernel_rfl) rfl (QO.pickT (by rfl) hb57 (by rfl)) ?_
          refine RT.take (i := 30) rfl (by kernel_rfl) rfl (QO.assign) ?_
          refine RT.done (by kernel_rfl) ?_
          refine thenC_n ?_
          refine CS.condT (by rfl) rfl ?_
          refine CS.seq ?_
          refine CS.region ?_
          refine RS.q rfl (QO.assign) ?_
          refine RS.nil ?_
          refine thenC_n ?_
          refine CS.ret ?_
          refine blockC_r ?_
          refine thenC_r ?_
          refine blockC_r ?_
          refine thenC_r ?_
          refine loopQ_r ?_
          refine blockC_r ?_
          refine thenC_r ?_
          refine retQ.mk (H' := []) (.inr rfl) (RVs.tmp (by rfl) RVs.nil) (List.nil_sublist _) ?_
          exact ⟨congrArg iv (edE_at hn hs hlen hz (by omega) (hev.trans (evE1_12 (by assumption) (by omega) (by omega) (by omega) (by omega))) (by decide)).symm, rfl⟩
        have hb58p := of_decide_eq_false hb58
        refine RT.takeOn (i := 8) (dj := 93) rfl rfl (congrArg Value.bool hb58) (by kernel_rfl) rfl (QO.fieldAddr fo134_2 (by rfl)) ?_
        refine RT.takeOn (i := 9) (dj := 93) rfl rfl (congrArg Value.bool hb58) (by kernel_rfl) rfl (QO.load ty3 (by rfl) (by repeat (first | exact List.Mem.head _ | refine List.Mem.tail _ ?_)) (by rfl)) ?_
        refine RT.takeOn (i := 10) (dj := 93) rfl rfl (congrArg Value.bool hb58) (by kernel_rfl) rfl (QO.gtr (by rfl) (by rfl)) ?_
        refine RT.takeOn (i := 11) (dj := 89) rfl rfl (congrArg Value.bool hb57) (by kernel_rfl) rfl (QO.pickF (by rfl) hb58 (by rfl)) ?_
        refine RT.takeOn (i := 12) (dj := 89) rfl rfl (congrArg Value.bool hb57) (by kernel_rfl) rfl (QO.move) ?_
        refine RT.split (dj := 98) (by rfl) (fun hb59 => ?_) (fun hb59 => ?_)
        · have hb59p := of_decide_eq_true hb59
          refine RT.takeOff (i := 13) (dj := 98) rfl rfl (.inl (congrArg Value.bool hb59)) (fun _ => rfl) (by kernel_rfl) rfl ?_
          refine RT.takeOff (i := 14) (dj := 98) rfl rfl (.inl (congrArg Value.bool hb59)) (fun _ => rfl) (by kernel_rfl) rfl ?_
          refine RT.takeOff (i := 15) (dj := 98) rfl rfl (.inl (congrArg Value.bool hb59)) (fun _ => rfl) (by kernel_rfl) rfl ?_
          refine RT.one (i := 16) (by kernel_rfl) rfl rfl ?_
          refine RS.off (dj := 98) rfl (.inl (congrArg Value.bool hb59)) (fun _ => rfl) rfl ?_
          refine RS.nil ⟨(by repeat (first | exact List.Sublist.refl _ | exact List.nil_sublist _ | refine List.Sublist.cons_cons _ ?_ | refine List.Sublist.cons _ ?_ | exact Sbp.refl | exact Sbp.nil | refine Sbp.cons (by repeat (first | exact Rem.head | apply Rem.tail)) ?_ | exact Sbp.app | refine Sbp.skip ?_)), ?_⟩
          refine RT.takeOff (i := 17) (dj := 98) rfl rfl (.inl (congrArg Value.bool hb59)) (fun _ => rfl) (by kernel_rfl) rfl ?_
          refine RT.takeOn (i := 18) (dj := 89) rfl rfl (congrArg Value.bool hb57) (by kernel_rfl) rfl (QO.pickT (by rfl) hb59 (by rfl)) ?_
          refine RT.takeOn (i := 19) (dj := 89) rfl rfl (congrArg Value.bool hb57) (by kernel_rfl) rfl (QO.move) ?_
          refine RT.takeOff (i := 20) (dj := 105) rfl rfl (.inl (congrArg Value.bool rfl)) (fun _ => rfl) (by kernel_rfl) rfl ?_
          refine RT.takeOff (i := 21) (dj := 105) rfl rfl (.inl (congrArg Value.bool rfl)) (fun _ => rfl) (by kernel_rfl) rfl ?_
          refine RT.takeOn (i := 22) (dj := 89) rfl rfl (congrArg Value.bool hb57) (by kernel_rfl) rfl (QO.pickT (by rfl) rfl (by rfl)) ?_
          refine RT.takeOn (i := 23) (dj := 89) rfl rfl (congrArg Value.bool hb57) (by kernel_rfl) rfl (QO.move) ?_
          refine RT.takeOff (i := 24) (dj := 109) rfl rfl (.inl (congrArg Value.bool rfl)) (fun _ => rfl) (by kernel_rfl) rfl ?_
          refine RT.takeOff (i := 25) (dj := 109) rfl rfl (.inl (congrArg Value.bool rfl)) (fun _ => rfl) (by kernel_rfl) rfl ?_
          refine RT.takeOff (i := 26) (dj := 109) rfl rfl (.inl (congrArg Value.bool rfl)) (fun _ => rfl) (by kernel_rfl) rfl ?_
          refine RT.takeOff (i := 27) (dj := 109) rfl rfl (.inl (congrArg Value.bool rfl)) (fun _ => rfl) (by kernel_rfl) rfl ?_
          refine RT.takeOn (i := 28) (dj := 89) rfl rfl (congrArg Value.bool hb57) (by kernel_rfl) rfl (QO.pickT (by rfl) rfl (by rfl)) ?_
          refine RT.take (i := 29) rfl (by kernel_rfl) rfl (QO.pickT (by rfl) hb57 (by rfl)) ?_
          refine RT.take (i := 30) rfl (by kernel_rfl) rfl (QO.assign) ?_
          refine RT.done (by kernel_rfl) ?_
          refine thenC_n ?_
          refine CS.condT (by rfl) rfl ?_
          refine CS.seq ?_
          refine CS.region ?_
          refine RS.q rfl (QO.assign) ?_
          refine RS.nil ?_
          refine thenC_n ?_
          refine CS.ret ?_
          refine blockC_r ?_
          refine thenC_r ?_
          refine blockC_r ?_
          refine thenC_r ?_
          refine loopQ_r ?_
          refine blockC_r ?_
          refine thenC_r ?_
          refine retQ.mk (H' := []) (.inr rfl) (RVs.tmp (by rfl) RVs.nil) (List.nil_sublist _) ?_
          exact ⟨congrArg iv (edE_at hn hs hlen hz (by omega) (hev.trans (evE1_12 (by assumption) (by omega) (by omega) (by omega) (by omega))) (by decide)).symm, rfl⟩
        have hb59p := of_decide_eq_false hb59
        refine RT.takeOn (i := 13) (dj := 98) rfl rfl (congrArg Value.bool hb59) (by kernel_rfl) rfl (QO.fieldAddr fo134_2 (by rfl)) ?_
        refine RT.takeOn (i := 14) (dj := 98) rfl rfl (congrArg Value.bool hb59) (by kernel_rfl) rfl (QO.load ty3 (by rfl) (by repeat (first | exact List.Mem.head _ | refine List.Mem.tail _ ?_)) (by rfl)) ?_
        refine RT.takeOn (i := 15) (dj := 98) rfl rfl (congrArg Value.bool hb59) (by kernel_rfl) rfl (QO.loadB ty134 (by rfl) (by repeat (first | exact List.Mem.head _ | refine List.Mem.tail _ ?_)) (by rfl)) ?_
        refine RT.one (i := 16) (by kernel_rfl) rfl rfl ?_
        refine RS.on (dj := 98) rfl (congrArg Value.bool hb59) ?_
        refine RS.call rfl (by rfl) ok97 (by rfl) (fun w ho => long_ e _ (by omega)) ?_
        rintro _ _ ⟨rfl, rfl⟩
        refine RS.nil ⟨(by repeat (first | exact List.Sublist.refl _ | exact List.nil_sublist _ | refine List.Sublist.cons_cons _ ?_ | refine List.Sublist.cons _ ?_ | exact Sbp.refl | exact Sbp.nil | refine Sbp.cons (by repeat (first | exact Rem.head | apply Rem.tail)) ?_ | exact Sbp.app | refine Sbp.skip ?_)), ?_⟩
        refine RT.takeOn (i := 17) (dj := 98) rfl rfl (congrArg Value.bool hb59) (by kernel_rfl) rfl (QO.gtr (by rfl) (by rfl)) ?_
        refine RT.takeOn (i := 18) (dj := 89) rfl rfl (congrArg Value.bool hb57) (by kernel_rfl) rfl (QO.pickF (by rfl) hb59 (by rfl)) ?_
        refine RT.takeOn (i := 19) (dj := 89) rfl rfl (congrArg Value.bool hb57) (by kernel_rfl) rfl (QO.move) ?_
        refine RT.split (dj := 105) (by rfl) (fun hb60 => ?_) (fun hb60 => ?_)
        · have hb60p := of_decide_eq_true hb60
          refine RT.takeOff (i := 20) (dj := 105) rfl rfl (.inl (congrArg Value.bool hb60)) (fun _ => rfl) (by kernel_rfl) rfl ?_
          refine RT.takeOff (i := 21) (dj := 105) rfl rfl (.inl (congrArg Value.bool hb60)) (fun _ => rfl) (by kernel_rfl) rfl ?_
          refine RT.takeOn (i := 22) (dj := 89) rfl rfl (congrArg Value.bool hb57) (by kernel_rfl) rfl (QO.pickT (by rfl) hb60 (by rfl)) ?_
          refine RT.takeOn (i := 23) (dj := 89) rfl rfl (congrArg Value.bool hb57) (by kernel_rfl) rfl (QO.move) ?_
          refine RT.takeOff (i := 24) (dj := 109) rfl rfl (.inl (congrArg Value.bool rfl)) (fun _ => rfl) (by kernel_rfl) rfl ?_
          refine RT.takeOff (i := 25) (dj := 109) rfl rfl (.inl (congrArg Value.bool rfl)) (fun _ => rfl) (by kernel_rfl) rfl ?_
          refine RT.takeOff (i := 26) (dj := 109) rfl rfl (.inl (congrArg Value.bool rfl)) (fun _ => rfl) (by kernel_rfl) rfl ?_
          refine RT.takeOff (i := 27) (dj := 109) rfl rfl (.inl (congrArg Value.bool rfl)) (fun _ => rfl) (by kernel_rfl) rfl ?_
          refine RT.takeOn (i := 28) (dj := 89) rfl rfl (congrArg Value.bool hb57) (by kernel_rfl) rfl (QO.pickT (by rfl) rfl (by rfl)) ?_
          refine RT.take (i := 29) rfl (by kernel_rfl) rfl (QO.pickT (by rfl) hb57 (by rfl)) ?_
          refine RT.take (i := 30) rfl (by kernel_rfl) rfl (QO.assign) ?_
          refine RT.done (by kernel_rfl) ?_
          refine thenC_n ?_
          refine CS.condT (by rfl) rfl ?_
          refine CS.seq ?_
          refine CS.region ?_
          refine RS.q rfl (QO.assign) ?_
          refine RS.nil ?_
          refine thenC_n ?_
          refine CS.ret ?_
          refine blockC_r ?_
          refine thenC_r ?_
          refine blockC_r ?_
          refine thenC_r ?_
          refine loopQ_r ?_
          refine blockC_r ?_
          refine thenC_r ?_
          refine retQ.mk (H' := []) (.inr rfl) (RVs.tmp (by rfl) RVs.nil) (List.nil_sublist _) ?_
          exact ⟨congrArg iv (edE_at hn hs hlen hz (by omega) (hev.trans (evE1_12 (by assumption) (by omega) (by omega) (by omega) (by omega))) (by decide)).symm, rfl⟩
        have hb60p := of_decide_eq_false hb60
        refine RT.takeOn (i := 20) (dj := 105) rfl rfl (congrArg Value.bool hb60) (by kernel_rfl) rfl (QO.move) ?_
        refine RT.takeOn (i := 21) (dj := 105) rfl rfl (congrArg Value.bool hb60) (by kernel_rfl) rfl (QO.not (by rfl)) ?_
        refine RT.takeOn (i := 22) (dj := 89) rfl rfl (congrArg Value.bool hb57) (by kernel_rfl) rfl (QO.pickF (by rfl) hb60 (by rfl)) ?_
        refine RT.takeOn (i := 23) (dj := 89) rfl rfl (congrArg Value.bool hb57) (by kernel_rfl) rfl (QO.move) ?_
        refine RT.takeOff (i := 24) (dj := 109) rfl rfl (.inl (congrArg Value.bool (by rw [hb41] <;> rfl))) (fun _ => rfl) (by kernel_rfl) rfl ?_
        refine RT.takeOff (i := 25) (dj := 109) rfl rfl (.inl (congrArg Value.bool (by rw [hb41] <;> rfl))) (fun _ => rfl) (by kernel_rfl) rfl ?_
        refine RT.takeOff (i := 26) (dj := 109) rfl rfl (.inl (congrArg Value.bool (by rw [hb41] <;> rfl))) (fun _ => rfl) (by kernel_rfl) rfl ?_
        refine RT.takeOff (i := 27) (dj := 109) rfl rfl (.inl (congrArg Value.bool (by rw [hb41] <;> rfl))) (fun _ => rfl) (by kernel_rfl) rfl ?_
        refine RT.takeOn (i := 28) (dj := 89) rfl rfl (congrArg Value.bool hb57) (by kernel_rfl) rfl (QO.pickT (by rfl) (by rw [hb41] <;> rfl) (by rfl)) ?_
        refine RT.take (i := 29) rfl (by kernel_rfl) rfl (QO.pickT (by rfl) hb57 (by rfl)) ?_
        refine RT.take (i := 30) rfl (by kernel_rfl) rfl (QO.assign) ?_
        refine RT.done (by kernel_rfl) ?_
        refine thenC_n ?_
        refine CS.condT (by rfl) rfl ?_
        refine CS.seq ?_
        refine CS.region ?_
        refine RS.q rfl (QO.assign) ?_
        refine RS.nil ?_
        refine thenC_n ?_
        refine CS.ret ?_
        refine blockC_r ?_
        refine thenC_r ?_
        refine blockC_r ?_
        refine thenC_r ?_
        refine loopQ_r ?_
        refine blockC_r ?_
        refine thenC_r ?_
        refine retQ.mk (H' := []) (.inr rfl) (RVs.tmp (by rfl) RVs.nil) (List.nil_sublist _) ?_
        exact ⟨congrArg iv (edE_at hn hs hlen hz (by omega) (hev.trans (evE1_12 (by assumption) (by omega) (by omega) (by omega) (by omega))) (by decide)).symm, rfl⟩
      have hb57p := ne_of_beq_false hb57
      refine RT.takeOff (i := 4) (dj := 89) rfl rfl (.inl (congrArg Value.bool hb57)) (fun _ => rfl) (by kernel_rfl) rfl ?_
      refine RT.takeOff (i := 5) (dj := 89) rfl rfl (.inl (congrArg Value.bool hb57)) (fun _ => rfl) (by kernel_rfl) rfl ?_
      refine RT.takeOff (i := 6) (dj := 89) rfl rfl (.inl (congrArg Value.bool hb57)) (fun _ => rfl) (by kernel_rfl) rfl ?_
      refine RT.takeOff (i := 7) (dj := 89) rfl rfl (.inl (congrArg Value.bool hb57)) (fun _ => rfl) (by kernel_rfl) rfl ?_
      refine RT.takeOff (i := 8) (dj := 93) (c := true) rfl rfl (.inr rfl) (fun h => by cases h) (by kernel_rfl) rfl ?_
      refine RT.takeOff (i := 9) (dj := 93) (c := true) rfl rfl (.inr rfl) (fun h => by cases h) (by kernel_rfl) rfl ?_
      refine RT.takeOff (i := 10) (dj := 93) (c := true) rfl rfl (.inr rfl) (fun h => by cases h) (by kernel_rfl) rfl ?_
      refine RT.takeOff (i := 11) (dj := 89) rfl rfl (.inl (congrArg Value.bool hb57)) (fun _ => rfl) (by kernel_rfl) rfl ?_
      refine RT.takeOff (i := 12) (dj := 89) rfl rfl (.inl (congrArg Value.bool hb57)) (fun _ => rfl) (by kernel_rfl) rfl ?_
      refine RT.takeOff (i := 13) (dj := 98) (c := true) rfl rfl (.inr rfl) (fun h => by cases h) (by kernel_rfl) rfl ?_
      refine RT.takeOff (i := 14) (dj := 98) (c := true) rfl rfl (.inr rfl) (fun h => by cases h) (by kernel_rfl) rfl ?_
      refine RT.takeOff (i := 15) (dj := 98) (c := true) rfl rfl (.inr rfl) (fun h => by cases h) (by kernel_rfl) rfl ?_
      refine RT.one (i := 16) (by kernel_rfl) rfl rfl ?_
      refine RS.off (dj := 98) (c := true) rfl (.inr rfl) (fun h => by cases h) rfl ?_
      refine RS.nil ⟨(by repeat (first | exact List.Sublist.refl _ | exact List.nil_sublist _ | refine List.Sublist.cons_cons _ ?_ | refine List.Sublist.cons _ ?_ | exact Sbp.refl | exact Sbp.nil | refine Sbp.cons (by repeat (first | exact Rem.head | apply Rem.tail)) ?_ | exact Sbp.app | refine Sbp.skip ?_)), ?_⟩
      refine RT.takeOff (i := 17) (dj := 98) (c := true) rfl rfl (.inr rfl) (fun h => by cases h) (by kernel_rfl) rfl ?_
      refine RT.takeOff (i := 18) (dj := 89) rfl rfl (.inl (congrArg Value.bool hb57)) (fun _ => rfl) (by kernel_rfl) rfl ?_
      refine RT.takeOff (i := 19) (dj := 89) rfl rfl (.inl (congrArg Value.bool hb57)) (fun _ => rfl) (by kernel_rfl) rfl ?_
      refine RT.takeOff (i := 20) (dj := 105) (c := true) rfl rfl (.inr rfl) (fun h => by cases h) (by kernel_rfl) rfl ?_
      refine RT.takeOff (i := 21) (dj := 105) (c := true) rfl rfl (.inr rfl) (fun h => by cases h) (by kernel_rfl) rfl ?_
      refine RT.takeOff (i := 22) (dj := 89) rfl rfl (.inl (congrArg Value.bool hb57)) (fun _ => rfl) (by kernel_rfl) rfl ?_
      refine RT.takeOff (i := 23) (dj := 89) rfl rfl (.inl (congrArg Value.bool hb57)) (fun _ => rfl) (by kernel_rfl) rfl ?_
      refine RT.takeOff (i := 24) (dj := 109) (c := true) rfl rfl (.inr rfl) (fun h => by cases h) (by kernel_rfl) rfl ?_
      refine RT.takeOff (i := 25) (dj := 109) (c := true) rfl rfl (.inr rfl) (fun h => by cases h) (by kernel_rfl) rfl ?_
      refine RT.takeOff (i := 26) (dj := 109) (c := true) rfl rfl (.inr rfl) (fun h => by cases h) (by kernel_rfl) rfl ?_
      refine RT.takeOff (i := 27) (dj := 109) (c := true) rfl rfl (.inr rfl) (fun h => by cases h) (by kernel_rfl) rfl ?_
      refine RT.takeOff (i := 28) (dj := 89) rfl rfl (.inl (congrArg Value.bool hb57)) (fun _ => rfl) (by kernel_rfl) rfl ?_
      refine RT.take (i := 29) rfl (by kernel_rfl) rfl (QO.pickF (by rfl) hb57 (by rfl)) ?_
      refine RT.take (i := 30) rfl (by kernel_rfl) rfl (QO.assign) ?_
      refine RT.done (by kernel_rfl) ?_
      refine thenC_n ?_
      refine CS.condF (by rfl) rfl ?_
      refine CS.skip ?_
      refine blockC_n ?_
      refine thenC_n ?_
      refine CS.draw 7 rfl (by kernel_rfl) (by kernel_rfl) ?_
      refine RT.take (i := 0) rfl (by kernel_rfl) rfl (QO.fieldAddr fo134_5 (by rfl)) ?_
      refine RT.take (i := 1) rfl (by kernel_rfl) rfl (QO.load ty3 (by rfl) (by repeat (first | exact List.Mem.head _ | refine List.Mem.tail _ ?_)) (by rfl)) ?_
      refine RT.take (i := 2) rfl (by kernel_rfl) rfl (QO.loadB ty134 (by rfl) (by repeat (first | exact List.Mem.head _ | refine List.Mem.tail _ ?_)) (by rfl)) ?_
      refine RT.one (i := 3) (by kernel_rfl) rfl rfl ?_
      refine RS.call rfl (by rfl) ok97 (by rfl) (fun w ho => long_ e _ (by omega)) ?_
      rintro _ _ ⟨rfl, rfl⟩
      refine RS.nil ⟨(by repeat (first | exact List.Sublist.refl _ | exact List.nil_sublist _ | refine List.Sublist.cons_cons _ ?_ | refine List.Sublist.cons _ ?_ | exact Sbp.refl | exact Sbp.nil | refine Sbp.cons (by repeat (first | exact Rem.head | apply Rem.tail)) ?_ | exact Sbp.app | refine Sbp.skip ?_)), ?_⟩
      refine RT.take (i := 4) rfl (by kernel_rfl) rfl (QO.add (by rfl) (by rfl) (by omega) (by omega)) ?_
      refine RT.take (i := 5) rfl (by kernel_rfl) rfl (QO.assign) ?_
      refine RT.take (i := 6) rfl (by kernel_rfl) rfl (QO.assign) ?_
      refine RT.done (by kernel_rfl) ?_
      refine blockC_n ?_
      refine thenC_n ?_
      refine CS.region ?_
      refine RS.q rfl (QO.add (by rfl) (by rfl) (by omega) (by omega)) ?_
      refine RS.q rfl (QO.move) ?_
      refine RS.nil ?_
      refine loopQ_n (by intro t ht; repeat (first | with_reducible exact rfl | exact frame_puts ht (frame_mix ht) _ rfl | (refine frame_put rfl ht ?_) | (refine frame_puts ht ?_ _ rfl) | exact frame_mix ht | (refine frame_mix2 rfl ht ?_) | exact rfl)) ?_
      exact ⟨k + 1, ⟨by omega, firstE_go hz (hev.trans (evE1_0 (by assumption) (by omega) (by omega) (by omega) (by omega)))⟩, by omega, kn_cons (by rfl) (kn_cons (congrArg iv (show e.at_ + (e.out - e.inn) = endB l (k + 1) from hen.symm)) (kn_cons (congrArg Value.bool (show true = decide (0 < ((k + 1 : Nat) : Int)) from (decide_eq_true (by omega)).symm)) kn_nil)), (by repeat (first | exact List.Sublist.refl _ | exact List.nil_sublist _ | refine List.Sublist.cons_cons _ ?_ | refine List.Sublist.cons _ ?_ | exact Sbp.refl | exact Sbp.nil | refine Sbp.cons (by repeat (first | exact Rem.head | apply Rem.tail)) ?_ | exact Sbp.app | refine Sbp.skip ?_))⟩
    have hb55p := ne_of_beq_false hb55
    refine RS.off (dj := 81) rfl (.inl (congrArg Value.bool hb55)) (fun _ => rfl) rfl ?_
    refine RS.off (dj := 81) rfl (.inl (congrArg Value.bool hb55)) (fun _ => rfl) rfl ?_
    refine RS.off (dj := 81) rfl (.inl (congrArg Value.bool hb55)) (fun _ => rfl) rfl ?_
    refine RS.q rfl (QO.pickF (by rfl) hb55 (by rfl)) ?_
    refine RS.q rfl (QO.assign) ?_
    refine RS.nil ?_
    refine thenC_n ?_
    refine CS.condF (by rfl) rfl ?_
    refine CS.draw 31 rfl (by kernel_rfl) (by kernel_rfl) ?_
    refine RT.take (i := 0) rfl (by kernel_rfl) rfl (QO.fieldAddr fo134_1 (by rfl)) ?_
    refine RT.take (i := 1) rfl (by kernel_rfl) rfl (QO.load ty3 (by rfl) (by repeat (first | exact List.Mem.head _ | refine List.Mem.tail _ ?_)) (by rfl)) ?_
    refine RT.take (i := 2) rfl (by kernel_rfl) rfl (QO.eql (by rfl) (by rfl)) ?_
    refine RT.take (i := 3) rfl (by kernel_rfl) rfl (QO.move) ?_
    refine RT.split (dj := 89) (by rfl) (fun hb61 => ?_) (fun hb61 => ?_)
    · have hb61p := eq_of_beq hb61
      refine RT.takeOn (i := 4) (dj := 89) rfl rfl (congrArg Value.bool hb61) (by kernel_rfl) rfl (QO.fieldAddr fo134_2 (by rfl)) ?_
      refine RT.takeOn (i := 5) (dj := 89) rfl rfl (congrArg Value.bool hb61) (by kernel_rfl) rfl (QO.load ty3 (by rfl) (by repeat (first | exact List.Mem.head _ | refine List.Mem.tail _ ?_)) (by rfl)) ?_
      refine RT.takeOn (i := 6) (dj := 89) rfl rfl (congrArg Value.bool hb61) (by kernel_rfl) rfl (QO.lss (by rfl) (by rfl)) ?_
      refine RT.takeOn (i := 7) (dj := 89) rfl rfl (congrArg Value.bool hb61) (by kernel_rfl) rfl (QO.move) ?_
      refine RT.split (dj := 93) (by rfl) (fun hb62 => ?_) (fun hb62 => ?_)
      · have hb62p := of_decide_eq_true hb62
        refine RT.takeOff (i := 8) (dj := 93) rfl rfl (.inl (congrArg Value.bool hb62)) (fun _ => rfl) (by kernel_rfl) rfl ?_
        refine RT.takeOff (i := 9) (dj := 93) rfl rfl (.inl (congrArg Value.bool hb62)) (fun _ => rfl) (by kernel_rfl) rfl ?_
        refine RT.takeOff (i := 10) (dj := 93) rfl rfl (.inl (congrArg Value.bool hb62)) (fun _ => rfl) (by kernel_rfl) rfl ?_
        refine RT.takeOn (i := 11) (dj := 89) rfl rfl (congrArg Value.bool hb61) (by kernel_rfl) rfl (QO.pickT (by rfl) hb62 (by rfl)) ?_
        refine RT.takeOn (i := 12) (dj := 89) rfl rfl (congrArg Value.bool hb61) (by kernel_rfl) rfl (QO.move) ?_
        refine RT.takeOff (i := 13) (dj := 98) rfl rfl (.inl (congrArg Value.bool rfl)) (fun _ => rfl) (by kernel_rfl) rfl ?_
        refine RT.takeOff (i := 14) (dj := 98) rfl rfl (.inl (congrArg Value.bool rfl)) (fun _ => rfl) (by kernel_rfl) rfl ?_
        refine RT.takeOff (i := 15) (dj := 98) rfl rfl (.inl (congrArg Value.bool rfl)) (fun _ => rfl) (by kernel_rfl) rfl ?_
        refine RT.one (i := 16) (by kernel_rfl) rfl rfl ?_
        refine RS.off (dj := 98) rfl (.inl (congrArg Value.bool rfl)) (fun _ => rfl) rfl ?_
        refine RS.nil ⟨(by repeat (first | exact List.Sublist.refl _ | exact List.nil_sublist _ | refine List.Sublist.cons_cons _ ?_ | refine List.Sublist.cons _ ?_ | exact Sbp.refl | exact Sbp.nil | refine Sbp.cons (by repeat (first | exact Rem.head | apply Rem.tail)) ?_ | exact Sbp.app | refine Sbp.skip ?_)), ?_⟩
        refine RT.takeOff (i := 17) (dj := 98) rfl rfl (.inl (congrArg Value.bool rfl)) (fun _ => rfl) (by kernel_rfl) rfl ?_
        refine RT.takeOn (i := 18) (dj := 89) rfl rfl (congrArg Value.bool hb61) (by kernel_rfl) rfl (QO.pickT (by rfl) rfl (by rfl)) ?_
        refine RT.takeOn (i := 19) (dj := 89) rfl rfl (congrArg Value.bool hb61) (by kernel_rfl) rfl (QO.move) ?_
        refine RT.takeOff (i := 20) (dj := 105) rfl rfl (.inl (congrArg Value.bool rfl)) (fun _ => rfl) (by kernel_rfl) rfl ?_
        refine RT.takeOff (i := 21) (dj := 105) rfl rfl (.inl (congrArg Value.bool rfl)) (fun _ => rfl) (by kernel_rfl) rfl ?_
        refine RT.takeOn (i := 22) (dj := 89) rfl rfl (congrArg Value.bool hb61) (by kernel_rfl) rfl (QO.pickT (by rfl) rfl (by rfl)) ?_
        refine RT.takeOn (i := 23) (dj := 89) rfl rfl (congrArg Value.bool hb61) (by kernel_rfl) rfl (QO.move) ?_
        refine RT.takeOff (i := 24) (dj := 109) rfl rfl (.inl (congrArg Value.bool rfl)) (fun _ => rfl) (by kernel_rfl) rfl ?_
        refine RT.takeOff (i := 25) (dj := 109) rfl rfl (.inl (congrArg Value.bool rfl)) (fun _ => rfl) (by kernel_rfl) rfl ?_
        refine RT.takeOff (i := 26) (dj := 109) rfl rfl (.inl (congrArg Value.bool rfl)) (fun _ => rfl) (by kernel_rfl) rfl ?_
        refine RT.takeOff (i := 27) (dj := 109) rfl rfl (.inl (congrArg Value.bool rfl)) (fun _ => rfl) (by kernel_rfl) rfl ?_
        refine RT.takeOn (i := 28) (dj := 89) rfl rfl (congrArg Value.bool hb61) (by kernel_rfl) rfl (QO.pickT (by rfl) rfl (by rfl)) ?_
        refine RT.take (i := 29) rfl (by kernel_rfl) rfl (QO.pickT (by rfl) hb61 (by rfl)) ?_
        refine RT.take (i := 30) rfl (by kernel_rfl) rfl (QO.assign) ?_
        refine RT.done (by kernel_rfl) ?_
        refine thenC_n ?_
        refine CS.condT (by rfl) rfl ?_
        refine CS.seq ?_
        refine CS.region ?_
        refine RS.q rfl (QO.assign) ?_
        refine RS.nil ?_
        refine thenC_n ?_
        refine CS.ret ?_
        refine blockC_r ?_
        refine thenC_r ?_
        refine blockC_r ?_
        refine thenC_r ?_
        refine loopQ_r ?_
        refine blockC_r ?_
        refine thenC_r ?_
        refine retQ.mk (H' := []) (.inr rfl) (RVs.tmp (by rfl) RVs.nil) (List.nil_sublist _) ?_
        exact ⟨congrArg iv (edE_at hn hs hlen hz (by omega) (hev.trans (evE1_12 (by assumption) (by omega) (by omega) (by omega) (by omega))) (by decide)).symm, rfl⟩
      have hb62p := of_decide_eq_false hb62
      refine RT.takeOn (i := 8) (dj := 93) rfl rfl (congrArg Value.bool hb62) (by kernel_rfl) rfl (QO.fieldAddr fo134_2 (by rfl)) ?_
      refine RT.takeOn (i := 9) (dj := 93) rfl rfl (congrArg Value.bool hb62) (by kernel_rfl) rfl (QO.load ty3 (by rfl) (by repeat (first | exact List.Mem.head _ | refine List.Mem.tail _ ?_)) (by rfl)) ?_
      refine RT.takeOn (i := 10) (dj := 93) rfl rfl (congrArg Value.bool hb62) (by kernel_rfl) rfl (QO.gtr (by rfl) (by rfl)) ?_
      refine RT.takeOn (i := 11) (dj := 89) rfl rfl (congrArg Value.bool hb61) (by kernel_rfl) rfl (QO.pickF (by rfl) hb62 (by rfl)) ?_
      refine RT.takeOn (i := 12) (dj := 89) rfl rfl (congrArg Value.bool hb61) (by kernel_rfl) rfl (QO.move) ?_
      refine RT.split (dj := 98) (by rfl) (fun hb63 => ?_) (fun hb63 => ?_)
      · have hb63p := of_decide_eq_true hb63
        refine RT.takeOff (i := 13) (dj := 98) rfl rfl (.inl (congrArg Value.bool hb63)) (fun _ => rfl) (by kernel_rfl) rfl ?_
        refine RT.takeOff (i := 14) (dj := 98) rfl rfl (.inl (congrArg Value.bool hb63)) (fun _ => rfl) (by kernel_rfl) rfl ?_
        refine RT.takeOff (i := 15) (dj := 98) rfl rfl (.inl (congrArg Value.bool hb63)) (fun _ => rfl) (by kernel_rfl) rfl ?_
        refine RT.one (i := 16) (by kernel_rfl) rfl rfl ?_
        refine RS.off (dj := 98) rfl (.inl (congrArg Value.bool hb63)) (fun _ => rfl) rfl ?_
        refine RS.nil ⟨(by repeat (first | exact List.Sublist.refl _ | exact List.nil_sublist _ | refine List.Sublist.cons_cons _ ?_ | refine List.Sublist.cons _ ?_ | exact Sbp.refl | exact Sbp.nil | refine Sbp.cons (by repeat (first | exact Rem.head | apply Rem.tail)) ?_ | exact Sbp.app | refine Sbp.skip ?_)), ?_⟩
        refine RT.takeOff (i := 17) (dj := 98) rfl rfl (.inl (congrArg Value.bool hb63)) (fun _ => rfl) (by kernel_rfl) rfl ?_
        refine RT.takeOn (i := 18) (dj := 89) rfl rfl (congrArg Value.bool hb61) (by kernel_rfl) rfl (QO.pickT (by rfl) hb63 (by rfl)) ?_
        refine RT.takeOn (i := 19) (dj := 89) rfl rfl (congrArg Value.bool hb61) (by kernel_rfl) rfl (QO.move) ?_
        refine RT.takeOff (i := 20) (dj := 105) rfl rfl (.inl (congrArg Value.bool rfl)) (fun _ => rfl) (by kernel_rfl) rfl ?_
        refine RT.takeOff (i := 21) (dj := 105) rfl rfl (.inl (congrArg Value.bool rfl)) (fun _ => rfl) (by kernel_rfl) rfl ?_
        refine RT.takeOn (i := 22) (dj := 89) rfl rfl (congrArg Value.bool hb61) (by kernel_rfl) rfl (QO.pickT (by rfl) rfl (by rfl)) ?_
        refine RT.takeOn (i := 23) (dj := 89) rfl rfl (congrArg Value.bool hb61) (by kernel_rfl) rfl (QO.move) ?_
        refine RT.takeOff (i := 24) (dj := 109) rfl rfl (.inl (congrArg Value.bool rfl)) (fun _ => rfl) (by kernel_rfl) rfl ?_
        refine RT.takeOff (i := 25) (dj := 109) rfl rfl (.inl (congrArg Value.bool rfl)) (fun _ => rfl) (by kernel_rfl) rfl ?_
        refine RT.takeOff (i := 26) (dj := 109) rfl rfl (.inl (congrArg Value.bool rfl)) (fun _ => rfl) (by kernel_rfl) rfl ?_
        refine RT.takeOff (i := 27) (dj := 109) rfl rfl (.inl (congrArg Value.bool rfl)) (fun _ => rfl) (by kernel_rfl) rfl ?_
        refine RT.takeOn (i := 28) (dj := 89) rfl rfl (congrArg Value.bool hb61) (by kernel_rfl) rfl (QO.pickT (by rfl) rfl (by rfl)) ?_
        refine RT.take (i := 29) rfl (by kernel_rfl) rfl (QO.pickT (by rfl) hb61 (by rfl)) ?_
        refine RT.take (i := 30) rfl (by kernel_rfl) rfl (QO.assign) ?_
        refine RT.done (by kernel_rfl) ?_
        refine thenC_n ?_
        refine CS.condT (by rfl) rfl ?_
        refine CS.seq ?_
        refine CS.region ?_
        refine RS.q rfl (QO.assign) ?_
        refine RS.nil ?_
        refine thenC_n ?_
        refine CS.ret ?_
        refine blockC_r ?_
        refine thenC_r ?_
        refine blockC_r ?_
        refine thenC_r ?_
        refine loopQ_r ?_
        refine blockC_r ?_
        refine thenC_r ?_
        refine retQ.mk (H' := []) (.inr rfl) (RVs.tmp (by rfl) RVs.nil) (List.nil_sublist _) ?_
        exact ⟨congrArg iv (edE_at hn hs hlen hz (by omega) (hev.trans (evE1_12 (by assumption) (by omega) (by omega) (by omega) (by omega))) (by decide)).symm, rfl⟩
      have hb63p := of_decide_eq_false hb63
      refine RT.takeOn (i := 13) (dj := 98) rfl rfl (congrArg Value.bool hb63) (by kernel_rfl) rfl (QO.fieldAddr fo134_2 (by rfl)) ?_
      refine RT.takeOn (i := 14) (dj := 98) rfl rfl (congrArg Value.bool hb63) (by kernel_rfl) rfl (QO.load ty3 (by rfl) (by repeat (first | exact List.Mem.head _ | refine List.Mem.tail _ ?_)) (by rfl)) ?_
      refine RT.takeOn (i := 15) (dj := 98) rfl rfl (congrArg Value.bool hb63) (by kernel_rfl) rfl (QO.loadB ty134 (by rfl) (by repeat (first | exact List.Mem.head _ | refine List.Mem.tail _ ?_)) (by rfl)) ?_
      refine RT.one (i := 16) (by kernel_rfl) rfl rfl ?_
      refine RS.on (dj := 98) rfl (congrArg Value.bool hb63) ?_
      refine RS.call rfl (by rfl) ok97 (by rfl) (fun w ho => long_ e _ (by omega)) ?_
      rintro _ _ ⟨rfl, rfl⟩
      refine RS.nil ⟨(by repeat (first | exact List.Sublist.refl _ | exact List.nil_sublist _ | refine List.Sublist.cons_cons _ ?_ | refine List.Sublist.cons _ ?_ | exact Sbp.refl | exact Sbp.nil | refine Sbp.cons (by repeat (first | exact Rem.head | apply Rem.tail)) ?_ | exact Sbp.app | refine Sbp.skip ?_)), ?_⟩
      refine RT.takeOn (i := 17) (dj := 98) rfl rfl (congrArg Value.bool hb63) (by kernel_rfl) rfl (QO.gtr (by rfl) (by rfl)) ?_
      refine RT.takeOn (i := 18) (dj := 89) rfl rfl (congrArg Value.bool hb61) (by kernel_rfl) rfl (QO.pickF (by rfl) hb63 (by rfl)) ?_
      refine RT.takeOn (i := 19) (dj := 89) rfl rfl (congrArg Value.bool hb61) (by kernel_rfl) rfl (QO.move) ?_
      refine RT.split (dj := 105) (by rfl) (fun hb64 => ?_) (fun hb64 => ?_)
      · have hb64p := of_decide_eq_true hb64
        refine RT.takeOff (i := 20) (dj := 105) rfl rfl (.inl (congrArg Value.bool hb64)) (fun _ => rfl) (by kernel_rfl) rfl ?_
        refine RT.takeOff (i := 21) (dj := 105) rfl rfl (.inl (congrArg Value.bool hb64)) (fun _ => rfl) (by kernel_rfl) rfl ?_
        refine RT.takeOn (i := 22) (dj := 89) rfl rfl (congrArg Value.bool hb61) (by kernel_rfl) rfl (QO.pickT (by rfl) hb64 (by rfl)) ?_
        refine RT.takeOn (i := 23) (dj := 89) rfl rfl (congrArg Value.bool hb61) (by kernel_rfl) rfl (QO.move) ?_
        refine RT.takeOff (i := 24) (dj := 109) rfl rfl (.inl (congrArg Value.bool rfl)) (fun _ => rfl) (by kernel_rfl) rfl ?_
        refine RT.takeOff (i := 25) (dj := 109) rfl rfl (.inl (congrArg Value.bool rfl)) (fun _ => rfl) (by kernel_rfl) rfl ?_
        refine RT.takeOff (i := 26) (dj := 109) rfl rfl (.inl (congrArg Value.bool rfl)) (fun _ => rfl) (by kernel_rfl) rfl ?_
        refine RT.takeOff (i := 27) (dj := 109) rfl rfl (.inl (congrArg Value.bool rfl)) (fun _ => rfl) (by kernel_rfl) rfl ?_
        refine RT.takeOn (i := 28) (dj := 89) rfl rfl (congrArg Value.bool hb61) (by kernel_rfl) rfl (QO.pickT (by rfl) rfl (by rfl)) ?_
        refine RT.take (i := 29) rfl (by kernel_rfl) rfl (QO.pickT (by rfl) hb61 (by rfl)) ?_
        refine RT.take (i := 30) rfl (by kernel_rfl) rfl (QO.assign) ?_
        refine RT.done (by kernel_rfl) ?_
        refine thenC_n ?_
        refine CS.condT (by rfl) rfl ?_
        refine CS.seq ?_
        refine CS.region ?_
        refine RS.q rfl (QO.assign) ?_
        refine RS.nil ?_
        refine thenC_n ?_
        refine CS.ret ?_
        refine blockC_r ?_
        refine thenC_r ?_
        refine blockC_r ?_
        refine thenC_r ?_
        refine loopQ_r ?_
        refine blockC_r ?_
        refine thenC_r ?_
        refine retQ.mk (H' := []) (.inr rfl) (RVs.tmp (by rfl) RVs.nil) (List.nil_sublist _) ?_
        exact ⟨congrArg iv (edE_at hn hs hlen hz (by omega) (hev.trans (evE1_12 (by assumption) (by omega) (by omega) (by omega) (by omega))) (by decide)).symm, rfl⟩
      have hb64p := of_decide_eq_false hb64
      refine RT.takeOn (i := 20) (dj := 105) rfl rfl (congrArg Value.bool hb64) (by kernel_rfl) rfl (QO.move) ?_
      refine RT.takeOn (i := 21) (dj := 105) rfl rfl (congrArg Value.bool hb64) (by kernel_rfl) rfl (QO.not (by rfl)) ?_
      refine RT.takeOn (i := 22) (dj := 89) rfl rfl (congrArg Value.bool hb61) (by kernel_rfl) rfl (QO.pickF (by rfl) hb64 (by rfl)) ?_
      refine RT.takeOn (i := 23) (dj := 89) rfl rfl (congrArg Value.bool hb61) (by kernel_rfl) rfl (QO.move) ?_
      refine RT.takeOff (i := 24) (dj := 109) rfl rfl (.inl (congrArg Value.bool (by rw [hb41] <;> rfl))) (fun _ => rfl) (by kernel_rfl) rfl ?_
      refine RT.takeOff (i := 25) (dj := 109) rfl rfl (.inl (congrArg Value.bool (by rw [hb41] <;> rfl))) (fun _ => rfl) (by kernel_rfl) rfl ?_
      refine RT.takeOff (i := 26) (dj := 109) rfl rfl (.inl (congrArg Value.bool (by rw [hb41] <;> rfl))) (fun _ => rfl) (by kernel_rfl) rfl ?_
      refine RT.takeOff (i := 27) (dj := 109) rfl rfl (.inl (congrArg Value.bool (by rw [hb41] <;> rfl))) (fun _ => rfl) (by kernel_rfl) rfl ?_
      refine RT.takeOn (i := 28) (dj := 89) rfl rfl (congrArg Value.bool hb61) (by kernel_rfl) rfl (QO.pickT (by rfl) (by rw [hb41] <;> rfl) (by rfl)) ?_
      refine RT.take (i := 29) rfl (by kernel_rfl) rfl (QO.pickT (by rfl) hb61 (by rfl)) ?_
      refine RT.take (i := 30) rfl (by kernel_rfl) rfl (QO.assign) ?_
      refine RT.done (by kernel_rfl) ?_
      refine thenC_n ?_
      refine CS.condT (by rfl) rfl ?_
      refine CS.seq ?_
      refine CS.region ?_
      refine RS.q rfl (QO.assign) ?_
      refine RS.nil ?_
      refine thenC_n ?_
      refine CS.ret ?_
      refine blockC_r ?_
      refine thenC_r ?_
      refine blockC_r ?_
      refine thenC_r ?_
      refine loopQ_r ?_
      refine blockC_r ?_
      refine thenC_r ?_
      refine retQ.mk (H' := []) (.inr rfl) (RVs.tmp (by rfl) RVs.nil) (List.nil_sublist _) ?_
      exact ⟨congrArg iv (edE_at hn hs hlen hz (by omega) (hev.trans (evE1_12 (by assumption) (by omega) (by omega) (by omega) (by omega))) (by decide)).symm, rfl⟩
    have hb61p := ne_of_beq_false hb61
    refine RT.takeOff (i := 4) (dj := 89) rfl rfl (.inl (congrArg Value.bool hb61)) (fun _ => rfl) (by kernel_rfl) rfl ?_
    refine RT.takeOff (i := 5) (dj := 89) rfl rfl (.inl (congrArg Value.bool hb61)) (fun _ => rfl) (by kernel_rfl) rfl ?_
    refine RT.takeOff (i := 6) (dj := 89) rfl rfl (.inl (congrArg Value.bool hb61)) (fun _ => rfl) (by kernel_rfl) rfl ?_
    refine RT.takeOff (i := 7) (dj := 89) rfl rfl (.inl (congrArg Value.bool hb61)) (fun _ => rfl) (by kernel_rfl) rfl ?_
    refine RT.takeOff (i := 8) (dj := 93) (c := true) rfl rfl (.inr rfl) (fun h => by cases h) (by kernel_rfl) rfl ?_
    refine RT.takeOff (i := 9) (dj := 93) (c := true) rfl rfl (.inr rfl) (fun h => by cases h) (by kernel_rfl) rfl ?_
    refine RT.takeOff (i := 10) (dj := 93) (c := true) rfl rfl (.inr rfl) (fun h => by cases h) (by kernel_rfl) rfl ?_
    refine RT.takeOff (i := 11) (dj := 89) rfl rfl (.inl (congrArg Value.bool hb61)) (fun _ => rfl) (by kernel_rfl) rfl ?_
    refine RT.takeOff (i := 12) (dj := 89) rfl rfl (.inl (congrArg Value.bool hb61)) (fun _ => rfl) (by kernel_rfl) rfl ?_
    refine RT.takeOff (i := 13) (dj := 98) (c := true) rfl rfl (.inr rfl) (fun h => by cases h) (by kernel_rfl) rfl ?_
    refine RT.takeOff (i := 14) (dj := 98) (c := true) rfl rfl (.inr rfl) (fun h => by cases h) (by kernel_rfl) rfl ?_
    refine RT.takeOff (i := 15) (dj := 98) (c := true) rfl rfl (.inr rfl) (fun h => by cases h) (by kernel_rfl) rfl ?_
    refine RT.one (i := 16) (by kernel_rfl) rfl rfl ?_
    refine RS.off (dj := 98) (c := true) rfl (.inr rfl) (fun h => by cases h) rfl ?_
    refine RS.nil ⟨(by repeat (first | exact List.Sublist.refl _ | exact List.nil_sublist _ | refine List.Sublist.cons_cons _ ?_ | refine List.Sublist.cons _ ?_ | exact Sbp.refl | exact Sbp.nil | refine Sbp.cons (by repeat (first | exact Rem.head | apply Rem.tail)) ?_ | exact Sbp.app | refine Sbp.skip ?_)), ?_⟩
    refine RT.takeOff (i := 17) (dj := 98) (c := true) rfl rfl (.inr rfl) (fun h => by cases h) (by kernel_rfl) rfl ?_
    refine RT.takeOff (i := 18) (dj := 89) rfl rfl (.inl (congrArg Value.bool hb61)) (fun _ => rfl) (by kernel_rfl) rfl ?_
    refine RT.takeOff (i := 19) (dj := 89) rfl rfl (.inl (congrArg Value.bool hb61)) (fun _ => rfl) (by kernel_rfl) rfl ?_
    refine RT.takeOff (i := 20) (dj := 105) (c := true) rfl rfl (.inr rfl) (fun h => by cases h) (by kernel_rfl) rfl ?_
    refine RT.takeOff (i := 21) (dj := 105) (c := true) rfl rfl (.inr rfl) (fun h => by cases h) (by kernel_rfl) rfl ?_
    refine RT.takeOff (i := 22) (dj := 89) rfl rfl (.inl (congrArg Value.bool hb61)) (fun _ => rfl) (by kernel_rfl) rfl ?_
    refine RT.takeOff (i := 23) (dj := 89) rfl rfl (.inl (congrArg Value.bool hb61)) (fun _ => rfl) (by kernel_rfl) rfl ?_
    refine RT.takeOff (i := 24) (dj := 109) (c := true) rfl rfl (.inr rfl) (fun h => by cases h) (by kernel_rfl) rfl ?_
    refine RT.takeOff (i := 25) (dj := 109) (c := true) rfl rfl (.inr rfl) (fun h => by cases h) (by kernel_rfl) rfl ?_
    refine RT.takeOff (i := 26) (dj := 109) (c := true) rfl rfl (.inr rfl) (fun h => by cases h) (by kernel_rfl) rfl ?_
    refine RT.takeOff (i := 27) (dj := 109) (c := true) rfl rfl (.inr rfl) (fun h => by cases h) (by kernel_rfl) rfl ?_
    refine RT.takeOff (i := 28) (dj := 89) rfl rfl (.inl (congrArg Value.bool hb61)) (fun _ => rfl) (by kernel_rfl) rfl ?_
    refine RT.take (i := 29) rfl (by kernel_rfl) rfl (QO.pickF (by rfl) hb61 (by rfl)) ?_
    refine RT.take (i := 30) rfl (by kernel_rfl) rfl (QO.assign) ?_
    refine RT.done (by kernel_rfl) ?_
    refine thenC_n ?_
    refine CS.condF (by rfl) rfl ?_
    refine CS.skip ?_
    refine blockC_n ?_
    refine thenC_n ?_
    refine CS.draw 7 rfl (by kernel_rfl) (by kernel_rfl) ?_
    refine RT.take (i := 0) rfl (by kernel_rfl) rfl (QO.fieldAddr fo134_5 (by rfl)) ?_
    refine RT.take (i := 1) rfl (by kernel_rfl) rfl (QO.load ty3 (by rfl) (by repeat (first | exact List.Mem.head _ | refine List.Mem.tail _ ?_)) (by rfl)) ?_
    refine RT.take (i := 2) rfl (by kernel_rfl) rfl (QO.loadB ty134 (by rfl) (by repeat (first | exact List.Mem.head _ | refine List.Mem.tail _ ?_)) (by rfl)) ?_
    refine RT.one (i := 3) (by kernel_rfl) rfl rfl ?_
    refine RS.call rfl (by rfl) ok97 (by rfl) (fun w ho => long_ e _ (by omega)) ?_
    rintro _ _ ⟨rfl, rfl⟩
    refine RS.nil ⟨(by repeat (first | exact List.Sublist.refl _ | exact List.nil_sublist _ | refine List.Sublist.cons_cons _ ?_ | refine List.Sublist.cons _ ?_ | exact Sbp.refl | exact Sbp.nil | refine Sbp.cons (by repeat (first | exact Rem.head | apply Rem.tail)) ?_ | exact Sbp.app | refine Sbp.skip ?_)), ?_⟩
    refine RT.take (i := 4) rfl (by kernel_rfl) rfl (QO.add (by rfl) (by rfl) (by omega) (by omega)) ?_
    refine RT.take (i := 5) rfl (by kernel_rfl) rfl (QO.assign) ?_
    refine RT.take (i := 6) rfl (by kernel_rfl) rfl (QO.assign) ?_
    refine RT.done (by kernel_rfl) ?_
    refine blockC_n ?_
    refine thenC_n ?_
    refine CS.region ?_
    refine RS.q rfl (QO.add (by rfl) (by rfl) (by omega) (by omega)) ?_
    refine RS.q rfl (QO.move) ?_
    refine RS.nil ?_
    refine loopQ_n (by intro t ht; repeat (first | with_reducible exact rfl | exact frame_puts ht (frame_mix ht) _ rfl | (refine frame_put rfl ht ?_) | (refine frame_puts ht ?_ _ rfl) | exact frame_mix ht | (refine frame_mix2 rfl ht ?_) | exact rfl)) ?_
    exact ⟨k + 1, ⟨by omega, firstE_go hz (hev.trans (evE1_0 (by assumption) (by omega) (by omega) (by omega) (by omega)))⟩, by omega, kn_cons (by rfl) (kn_cons (congrArg iv (show e.at_ + (e.out - e.inn) = endB l (k + 1) from hen.symm)) (kn_cons (congrArg Value.bool (show true = decide (0 < ((k + 1 : Nat) : Int)) from (decide_eq_true (by omega)).symm)) kn_nil)), (by repeat (first | exact List.Sublist.refl _ | exact List.nil_sublist _ | refine List.Sublist.cons_cons _ ?_ | refine List.Sublist.cons _ ?_ | exact Sbp.refl | exact Sbp.nil | refine Sbp.cons (by repeat (first | exact Rem.head | apply Rem.tail)) ?_ | exact Sbp.app | refine Sbp.skip ?_))⟩
  have hb3p := of_decide_eq_false hb3
  refine CS.exit ?_
  refine thenC_x ?_
  refine loopQ_x ?_
  refine blockC_x ?_
  refine thenC_n ?_
  refine CS.seq ?_
  refine CS.region ?_
  refine RS.q rfl (QO.assign) ?_
  refine RS.nil ?_
  refine thenC_n ?_
  refine CS.ret ?_
  refine retQ.mk (H' := []) (.inr rfl) (RVs.tmp (by rfl) RVs.nil) (List.nil_sublist _) ?_
  exact ⟨congrArg iv ((edE_n hn hs hlen).trans ((congrArg (firstE (evErr l)) (show l.length = k by omega)).trans hz)).symm, rfl⟩

end Go.Proofs.YtapcgokcfmklbaaDoor
