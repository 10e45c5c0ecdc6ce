/-
  Contracts: EditsAreTrimmed. Conditions: as each theorem says.
-/
import Derived.Test.YtapcgokcfmklbaaDoorE8
import Derived.Test.YtapcgokcfmklbaaDoorEv4
namespace Go.Proofs.YtapcgokcfmklbaaDoor
open Go Go.Proofs Go.RowKit

theorem ok25 : callOK Tryd.prog 25 = true := by kernel_rfl
theorem ok26 : callOK Tryd.prog 26 = true := by kernel_rfl
theorem ok27 : callOK Tryd.prog 27 = true := by kernel_rfl
theorem ok28 : callOK Tryd.prog 28 = true := by kernel_rfl

set_option maxHeartbeats 4000000 in
set_option maxRecDepth 100000 in
theorem editsAreTrimmed (t : List UInt8) (rate : Int) (A : Option Addr) (n c : Nat) (l : List Ev) (i by_ : Int) (W : World) (ht : t.length ≤ maxLen) (hl : l.length = n) (hES : ES W A l) (hr : ∀ e ∈ l, e.reel.length ≤ maxLen) (hm : n ≤ maxLen) : Fn_ Tryd.prog 5 #[.agg #[sv t, iv rate, .slice A n c], iv i, iv by_] W (fun v H => v = .bool true ∧ H = []) := by
  have hex := chP_ex t rate l (slipL l i.toNat (min (max by_ (-1073741824)) 1073741824)) i
  obtain ⟨p1, p2, p3, p4, hP⟩ := hex
  have hP2 : chP t rate l (if (false : Bool) = true then trimEL l i.toNat (min (max by_ (-1099511627776)) 1099511627776) else slipL l i.toNat (min (max by_ (-1099511627776)) 1099511627776)) i = (p1, p2, p3, p4) := by rw [if_neg (by decide), ← hP]; exact (chP_same slipL (fun b h1 h2 h3 => slip_far h1 h2 h3)).symm
  have hex := chP_ex t rate l (trimEL l i.toNat (min (max by_ (-1073741824)) 1073741824)) i
  obtain ⟨q1, q2, q3, q4, hQ⟩ := hex
  have hQ2 : chP t rate l (if (true : Bool) = true then trimEL l i.toNat (min (max by_ (-1099511627776)) 1099511627776) else slipL l i.toNat (min (max by_ (-1099511627776)) 1099511627776)) i = (q1, q2, q3, q4) := by rw [if_pos rfl, ← hQ]; exact (chP_same trimEL (fun b h1 h2 h3 => trim_far h1 h2 h3)).symm
  have hp1 : p1.length ≤ maxLen := by have := chP_tl (rate := rate) (l := l) (l2 := slipL l i.toNat (min (max by_ (-1073741824)) 1073741824)) (i := i) ht; rw [hP] at this; exact this
  have hq1 : q1.length ≤ maxLen := by have := chP_tl (rate := rate) (l := l) (l2 := trimEL l i.toNat (min (max by_ (-1073741824)) 1073741824)) (i := i) ht; rw [hQ] at this; exact this
  have hp3 : ∀ e ∈ p3, e.reel.length ≤ maxLen := by have := chP_reel (t := t) (rate := rate) (l := l) (i := i) (slipL_reel (i := i.toNat) (b := (min (max by_ (-1073741824)) 1073741824)) hr); rw [hP] at this; exact this
  have hq3 : ∀ e ∈ q3, e.reel.length ≤ maxLen := by have := chP_reel (t := t) (rate := rate) (l := l) (i := i) (trimEL_reel (i := i.toNat) (b := (min (max by_ (-1073741824)) 1073741824)) hr); rw [hQ] at this; exact this
  refine Fn_.intro Tryd.func5 rfl rfl (by rfl) ?_
  refine CS.seq ?_
  refine CS.region ?_
  refine RS.box rfl (by rfl) (by rfl) ?_
  intro g3
  refine RS.q rfl (QO.assign) ?_
  refine RS.nil ?_
  refine thenC_n ?_
  refine CS.seq ?_
  refine CS.seq ?_
  refine CS.region ?_
  refine RS.call rfl (by rfl) ok11 (by rfl) (fun w ho => landed _) ?_
  rintro _ _ ⟨rfl, rfl⟩
  refine RS.q rfl (QO.not (by rfl)) ?_
  refine RS.nil ?_
  refine thenC_n ?_
  refine CS.condF (by rfl) rfl ?_
  refine CS.skip ?_
  refine thenC_n ?_
  refine CS.seq ?_
  refine CS.region ?_
  first | (refine RS.q rfl (QO.loadB ty52 (by rfl) (by repeat (first | exact List.Mem.head _ | refine List.Mem.tail _ ?_)) (by rfl)) ?_) | (refine RS.q rfl (QO.loadA ty52 (by rfl) (by repeat (first | exact List.Mem.head _ | refine List.Mem.tail _ ?_)) (by rfl) (by rfl)) ?_) | (refine RS.q rfl (QO.loadOA ty52 (by rfl) (by assumption) (by rfl)) ?_)
  refine RS.q rfl (QO.move) ?_
  refine RS.q rfl (QO.move) ?_
  refine RS.call rfl (by rfl) ok25 (by rfl) (fun w ho => slip_ t rate A n c l i by_ _ ht hl (hES.own ho) hr hm) ?_
  intro v25 H25 hch25
  have hx25 := chR_Q hP hl hch25 (by rw [slipL_len]; exact hl) hm
  obtain ⟨A25, k25, c25, hv25, hEB25, hkl25, hkm25⟩ := hx25
  subst hv25
  refine RS.sbpx (H2 := ⟨g3, 52, [sv t, iv rate, .slice A n c]⟩ :: (H25 ++ [])) (sbp_swap [⟨g3, 52, [sv t, iv rate, .slice A n c]⟩] _ _) ?_
  refine RS.q rfl (QO.move) ?_
  refine RS.q rfl (QO.extract (by rfl) (by rfl)) ?_
  refine RS.q rfl (QO.extract (by rfl) (by rfl)) ?_
  refine RS.alloc rfl ty52 ?_
  intro g7
  first | refine RS.storeB ty52 (by rfl) (by rfl) (by rfl) (by rfl) (by rfl) (by repeat (first | exact Upd.head | apply Upd.tail)) (by rfl) ?_ | refine RS.storeP ty52 (by rfl) (by rfl) (by rfl) (by rfl) (by rfl) (by repeat (first | exact Upd.head | apply Upd.tail)) (by rfl) ?_
  refine RS.q rfl (QO.assign) ?_
  refine RS.nil ?_
  refine thenC_n ?_
  refine CS.seq ?_
  refine CS.region ?_
  first | (refine RS.q rfl (QO.loadB ty52 (by rfl) (by repeat (first | exact List.Mem.head _ | refine List.Mem.tail _ ?_)) (by rfl)) ?_) | (refine RS.q rfl (QO.loadA ty52 (by rfl) (by repeat (first | exact List.Mem.head _ | refine List.Mem.tail _ ?_)) (by rfl) (by rfl)) ?_) | (refine RS.q rfl (QO.loadOA ty52 (by rfl) (by assumption) (by rfl)) ?_)
  refine RS.q rfl (QO.move) ?_
  refine RS.q rfl (QO.move) ?_
  refine RS.call rfl (by rfl) ok26 (by rfl) (fun w ho => trimmed t rate A n c l i by_ false _ ht hl (hES.own ho) hr hm) ?_
  intro v32 H32 hch32
  have hx32 := chR_Q hP2 hl hch32 (by rw [if_neg (by decide), slipL_len]; exact hl) hm
  obtain ⟨A32, k32, c32, hv32, hEB32, hkl32, hkm32⟩ := hx32
  subst hv32
  refine RS.sbpx (H2 := ⟨g7, 52, [sv p1, iv p2, .slice A25 k25 c25]⟩ :: ⟨g3, 52, [sv t, iv rate, .slice A n c]⟩ :: (H32 ++ (H25 ++ []))) (sbp_swap [⟨g7, 52, [sv p1, iv p2, .slice A25 k25 c25]⟩, ⟨g3, 52, [sv t, iv rate, .slice A n c]⟩] _ _) ?_
  refine RS.q rfl (QO.move) ?_
  refine RS.q rfl (QO.extract (by rfl) (by rfl)) ?_
  refine RS.q rfl (QO.extract (by rfl) (by rfl)) ?_
  refine RS.alloc rfl ty52 ?_
  intro g9
  first | refine RS.storeB ty52 (by rfl) (by rfl) (by rfl) (by rfl) (by rfl) (by repeat (first | exact Upd.head | apply Upd.tail)) (by rfl) ?_ | refine RS.storeP ty52 (by rfl) (by rfl) (by rfl) (by rfl) (by rfl) (by repeat (first | exact Upd.head | apply Upd.tail)) (by rfl) ?_
  refine RS.q rfl (QO.assign) ?_
  refine RS.nil ?_
  refine thenC_n ?_
  refine CS.seq ?_
  refine CS.region ?_
  first | (refine RS.q rfl (QO.loadB ty52 (by rfl) (by repeat (first | exact List.Mem.head _ | refine List.Mem.tail _ ?_)) (by rfl)) ?_) | (refine RS.q rfl (QO.loadA ty52 (by rfl) (by repeat (first | exact List.Mem.head _ | refine List.Mem.tail _ ?_)) (by rfl) (by rfl)) ?_) | (refine RS.q rfl (QO.loadOA ty52 (by rfl) (by assumption) (by rfl)) ?_)
  refine RS.q rfl (QO.move) ?_
  refine RS.q rfl (QO.move) ?_
  refine RS.call rfl (by rfl) ok27 (by rfl) (fun w ho => trim_ t rate A n c l i by_ _ ht hl (hES.own ho) hr hm) ?_
  intro v39 H39 hch39
  have hx39 := chR_Q hQ hl hch39 (by rw [trimEL_len]; exact hl) hm
  obtain ⟨A39, k39, c39, hv39, hEB39, hkl39, hkm39⟩ := hx39
  subst hv39
  refine RS.sbpx (H2 := ⟨g9, 52, [sv p1, iv p2, .slice A32 k32 c32]⟩ :: ⟨g7, 52, [sv p1, iv p2, .slice A25 k25 c25]⟩ :: ⟨g3, 52, [sv t, iv rate, .slice A n c]⟩ :: (H39 ++ (H32 ++ (H25 ++ [])))) (sbp_swap [⟨g9, 52, [sv p1, iv p2, .slice A32 k32 c32]⟩, ⟨g7, 52, [sv p1, iv p2, .slice A25 k25 c25]⟩, ⟨g3, 52, [sv t, iv rate, .slice A n c]⟩] _ _) ?_
  refine RS.q rfl (QO.move) ?_
  refine RS.q rfl (QO.extract (by rfl) (by rfl)) ?_
  refine RS.q rfl (QO.extract (by rfl) (by rfl)) ?_
  refine RS.alloc rfl ty52 ?_
  intro g11
  first | refine RS.storeB ty52 (by rfl) (by rfl) (by rfl) (by rfl) (by rfl) (by repeat (first | exact Upd.head | apply Upd.tail)) (by rfl) ?_ | refine RS.storeP ty52 (by rfl) (by rfl) (by rfl) (by rfl) (by rfl) (by repeat (first | exact Upd.head | apply Upd.tail)) (by rfl) ?_
  refine RS.q rfl (QO.assign) ?_
  refine RS.nil ?_
  refine thenC_n ?_
  refine CS.seq ?_
  refine CS.region ?_
  first | (refine RS.q rfl (QO.loadB ty52 (by rfl) (by repeat (first | exact List.Mem.head _ | refine List.Mem.tail _ ?_)) (by rfl)) ?_) | (refine RS.q rfl (QO.loadA ty52 (by rfl) (by repeat (first | exact List.Mem.head _ | refine List.Mem.tail _ ?_)) (by rfl) (by rfl)) ?_) | (refine RS.q rfl (QO.loadOA ty52 (by rfl) (by assumption) (by rfl)) ?_)
  refine RS.q rfl (QO.move) ?_
  refine RS.q rfl (QO.move) ?_
  refine RS.call rfl (by rfl) ok26 (by rfl) (fun w ho => trimmed t rate A n c l i by_ true _ ht hl (hES.own ho) hr hm) ?_
  intro v46 H46 hch46
  have hx46 := chR_Q hQ2 hl hch46 (by rw [if_pos rfl, trimEL_len]; exact hl) hm
  obtain ⟨A46, k46, c46, hv46, hEB46, hkl46, hkm46⟩ := hx46
  subst hv46
  refine RS.sbpx (H2 := ⟨g11, 52, [sv q1, iv q2, .slice A39 k39 c39]⟩ :: ⟨g9, 52, [sv p1, iv p2, .slice A32 k32 c32]⟩ :: ⟨g7, 52, [sv p1, iv p2, .slice A25 k25 c25]⟩ :: ⟨g3, 52, [sv t, iv rate, .slice A n c]⟩ :: (H46 ++ (H39 ++ (H32 ++ (H25 ++ []))))) (sbp_swap [⟨g11, 52, [sv q1, iv q2, .slice A39 k39 c39]⟩, ⟨g9, 52, [sv p1, iv p2, .slice A32 k32 c32]⟩, ⟨g7, 52, [sv p1, iv p2, .slice A25 k25 c25]⟩, ⟨g3, 52, [sv t, iv rate, .slice A n c]⟩] _ _) ?_
  refine RS.q rfl (QO.move) ?_
  refine RS.q rfl (QO.extract (by rfl) (by rfl)) ?_
  refine RS.q rfl (QO.extract (by rfl) (by rfl)) ?_
  refine RS.alloc rfl ty52 ?_
  intro g13
  first | refine RS.storeB ty52 (by rfl) (by rfl) (by rfl) (by rfl) (by rfl) (by repeat (first | exact Upd.head | apply Upd.tail)) (by rfl) ?_ | refine RS.storeP ty52 (by rfl) (by rfl) (by rfl) (by rfl) (by rfl) (by repeat (first | exact Upd.head | apply Upd.tail)) (by rfl) ?_
  refine RS.q rfl (QO.assign) ?_
  refine RS.nil ?_
  refine thenC_n ?_
  refine CS.seq ?_
  refine CS.seq ?_
  refine CS.region ?_
  refine RS.q rfl (QO.move) ?_
  refine RS.q rfl (QO.move) ?_
  refine RS.qv rfl (QO.neq (by rfl) (by rfl)) (congrArg Value.bool (bne_self_eq_false _)) ?_
  refine RS.q rfl (QO.move) ?_
  refine RS.on (dj := 52) rfl (congrArg Value.bool rfl) ?_
  refine RS.q rfl (QO.move) ?_
  refine RS.on (dj := 52) rfl (congrArg Value.bool rfl) ?_
  refine RS.q rfl (QO.move) ?_
  refine RS.on (dj := 52) rfl (congrArg Value.bool rfl) ?_
  refine RS.qv rfl (QO.neq (by rfl) (by rfl)) (congrArg Value.bool (bne_self_eq_false _)) ?_
  refine RS.q rfl (QO.pickF (by rfl) rfl (by rfl)) ?_
  refine RS.q rfl (QO.move) ?_
  refine RS.on (dj := 57) rfl (congrArg Value.bool rfl) ?_
  first | (refine RS.q rfl (QO.loadB ty52 (by rfl) (by repeat (first | exact List.Mem.head _ | refine List.Mem.tail _ ?_)) (by rfl)) ?_) | (refine RS.q rfl (QO.loadA ty52 (by rfl) (by repeat (first | exact List.Mem.head _ | refine List.Mem.tail _ ?_)) (by rfl) (by rfl)) ?_) | (refine RS.q rfl (QO.loadOA ty52 (by rfl) (by assumption) (by rfl)) ?_)
  refine RS.on (dj := 57) rfl (congrArg Value.bool rfl) ?_
  first | (refine RS.q rfl (QO.loadB ty52 (by rfl) (by repeat (first | exact List.Mem.head _ | refine List.Mem.tail _ ?_)) (by rfl)) ?_) | (refine RS.q rfl (QO.loadA ty52 (by rfl) (by repeat (first | exact List.Mem.head _ | refine List.Mem.tail _ ?_)) (by rfl) (by rfl)) ?_) | (refine RS.q rfl (QO.loadOA ty52 (by rfl) (by assumption) (by rfl)) ?_)
  refine RS.on (dj := 57) rfl (congrArg Value.bool rfl) ?_
  refine RS.call rfl (by rfl) ok28 (by rfl) (fun w ho => sameEdits p1 p1 p2 p2 A25 A32 k25 c25 k32 c32 p3 p3 _ hkl25 (ES.eb hEB25 ho (fun b hb => by simp only [List.mem_cons, List.mem_append, hb, or_true, true_or])) hkl32 (ES.eb hEB32 ho (fun b hb => by simp only [List.mem_cons, List.mem_append, hb, or_true, true_or])) hkm25) ?_
  intro v60 H60 h60
  rw [decide_eq_true ⟨rfl, rfl, rfl⟩] at h60
  obtain ⟨rfl, rfl⟩ := h60
  refine RS.on (dj := 57) rfl (congrArg Value.bool rfl) ?_
  refine RS.q rfl (QO.not (by rfl)) ?_
  refine RS.q rfl (QO.pickF (by rfl) rfl (by rfl)) ?_
  refine RS.q rfl (QO.move) ?_
  refine RS.on (dj := 63) rfl (congrArg Value.bool rfl) ?_
  first | (refine RS.q rfl (QO.loadB ty52 (by rfl) (by repeat (first | exact List.Mem.head _ | refine List.Mem.tail _ ?_)) (by rfl)) ?_) | (refine RS.q rfl (QO.loadA ty52 (by rfl) (by repeat (first | exact List.Mem.head _ | refine List.Mem.tail _ ?_)) (by rfl) (by rfl)) ?_) | (refine RS.q rfl (QO.loadOA ty52 (by rfl) (by assumption) (by rfl)) ?_)
  refine RS.on (dj := 63) rfl (congrArg Value.bool rfl) ?_
  first | (refine RS.q rfl (QO.loadB ty52 (by rfl) (by repeat (first | exact List.Mem.head _ | refine List.Mem.tail _ ?_)) (by rfl)) ?_) | (refine RS.q rfl (QO.loadA ty52 (by rfl) (by repeat (first | exact List.Mem.head _ | refine List.Mem.tail _ ?_)) (by rfl) (by rfl)) ?_) | (refine RS.q rfl (QO.loadOA ty52 (by rfl) (by assumption) (by rfl)) ?_)
  refine RS.on (dj := 63) rfl (congrArg Value.bool rfl) ?_
  refine RS.call rfl (by rfl) ok28 (by rfl) (fun w ho => sameEdits q1 q1 q2 q2 A39 A46 k39 c39 k46 c46 q3 q3 _ hkl39 (ES.eb hEB39 ho (fun b hb => by simp only [List.mem_cons, List.mem_append, hb, or_true, true_or])) hkl46 (ES.eb hEB46 ho (fun b hb => by simp only [List.mem_cons, List.mem_append, hb, or_true, true_or])) hkm39) ?_
  intro v66 H66 h66
  rw [decide_eq_true ⟨rfl, rfl, rfl⟩] at h66
  obtain ⟨rfl, rfl⟩ := h66
  refine RS.on (dj := 63) rfl (congrArg Value.bool rfl) ?_
  refine RS.q rfl (QO.not (by rfl)) ?_
  refine RS.q rfl (QO.pickF (by rfl) rfl (by rfl)) ?_
  refine RS.nil ?_
  refine thenC_n ?_
  refine CS.condF (by rfl) rfl ?_
  refine CS.skip ?_
  refine thenC_n ?_
  refine CS.cut (X := Unit) (6 :: 15 :: 16 :: 69 :: 70 :: 71 :: 72 :: 73 :: 74 :: 75 :: 76 :: 77 :: 78 :: 79 :: 80 :: 81 :: 82 :: 83 :: 84 :: 85 :: 86 :: []) (fun z => []) (fun z => ⟨g13, 52, [sv q1, iv q2, .slice A46 k46 c46]⟩ :: ⟨g11, 52, [sv q1, iv q2, .slice A39 k39 c39]⟩ :: ⟨g9, 52, [sv p1, iv p2, .slice A32 k32 c32]⟩ :: ⟨g7, 52, [sv p1, iv p2, .slice A25 k25 c25]⟩ :: ⟨g3, 52, [sv t, iv rate, .slice A n c]⟩ :: (H46 ++ (H39 ++ (H32 ++ (H25 ++ []))))) (fun z => True) ?_ ?_
  · refine CS.seq ?_
    refine CS.region ?_
    refine RS.q rfl (QO.move) ?_
    refine RS.q rfl (QO.eql (by rfl) (by rfl)) ?_
    refine RS.nil ?_
    refine thenC_n ?_
    refine CS.cond (by rfl) (fun hb0 => ?_) (fun hb0 => ?_)
    · have hb0p := eq_of_beq hb0
      refine CS.seq ?_
      refine CS.region ?_
      have hBP := back_Q slipL (fun b h1 h2 h3 => slip_far h1 h2 h3) (fun b h => slip_back h) (fun b => slipL_len ..) hP (by assumption)
      first | (refine RS.q rfl (QO.loadB ty52 (by rfl) (by repeat (first | exact List.Mem.head _ | refine List.Mem.tail _ ?_)) (by rfl)) ?_) | (refine RS.q rfl (QO.loadA ty52 (by rfl) (by repeat (first | exact List.Mem.head _ | refine List.Mem.tail _ ?_)) (by rfl) (by rfl)) ?_) | (refine RS.q rfl (QO.loadOA ty52 (by rfl) (by assumption) (by rfl)) ?_)
      refine RS.q rfl (QO.move) ?_
      refine RS.q rfl (QO.move) ?_
      refine RS.q rfl (QO.neg (by rfl) (by omega) (by omega)) ?_
      refine RS.call rfl (by rfl) ok25 (by rfl) (fun w ho => slip_ p1 p2 A25 k25 c25 p3 i (-by_) _ hp1 hkl25 (ES.eb hEB25 ho (fun b hb => by simp only [List.mem_cons, List.mem_append, hb, or_true, true_or])) hp3 hkm25) ?_
      intro v76 H76 hch76
      have hx76 := chR_Q hBP.1 hkl25 hch76 (by rw [slipL_len]; exact hkl25) hkm25
      obtain ⟨A76, k76, c76, hv76, hEB76, hkl76, hkm76⟩ := hx76
      subst hv76
      refine RS.sbpx (H2 := ⟨g13, 52, [sv q1, iv q2, .slice A46 k46 c46]⟩ :: ⟨g11, 52, [sv q1, iv q2, .slice A39 k39 c39]⟩ :: ⟨g9, 52, [sv p1, iv p2, .slice A32 k32 c32]⟩ :: ⟨g7, 52, [sv p1, iv p2, .slice A25 k25 c25]⟩ :: ⟨g3, 52, [sv t, iv rate, .slice A n c]⟩ :: (H76 ++ (H46 ++ (H39 ++ (H32 ++ (H25 ++ [])))))) (sbp_swap [⟨g13, 52, [sv q1, iv q2, .slice A46 k46 c46]⟩, ⟨g11, 52, [sv q1, iv q2, .slice A39 k39 c39]⟩, ⟨g9, 52, [sv p1, iv p2, .slice A32 k32 c32]⟩, ⟨g7, 52, [sv p1, iv p2, .slice A25 k25 c25]⟩, ⟨g3, 52, [sv t, iv rate, .slice A n c]⟩] _ _) ?_
      refine RS.q rfl (QO.move) ?_
      refine RS.q rfl (QO.extract (by rfl) (by rfl)) ?_
      refine RS.q rfl (QO.extract (by rfl) (by rfl)) ?_
      refine RS.alloc rfl ty52 ?_
      intro g15
      first | refine RS.storeB ty52 (by rfl) (by rfl) (by rfl) (by rfl) (by rfl) (by repeat (first | exact Upd.head | apply Upd.tail)) (by rfl) ?_ | refine RS.storeP ty52 (by rfl) (by rfl) (by rfl) (by rfl) (by rfl) (by repeat (first | exact Upd.head | apply Upd.tail)) (by rfl) ?_
      refine RS.q rfl (QO.assign) ?_
      refine RS.nil ?_
      refine thenC_n ?_
      refine CS.seq ?_
      refine CS.region ?_
      refine RS.q rfl (QO.move) ?_
      refine RS.q rfl (QO.neq (by rfl) (by rfl)) ?_
      refine RS.q rfl (QO.move) ?_
      refine RS.on (dj := 81) rfl (congrArg Value.bool rfl) ?_
      first | (refine RS.q rfl (QO.loadB ty52 (by rfl) (by repeat (first | exact List.Mem.head _ | refine List.Mem.tail _ ?_)) (by rfl)) ?_) | (refine RS.q rfl (QO.loadA ty52 (by rfl) (by repeat (first | exact List.Mem.head _ | refine List.Mem.tail _ ?_)) (by rfl) (by rfl)) ?_) | (refine RS.q rfl (QO.loadOA ty52 (by rfl) (by assumption) (by rfl)) ?_)
      refine RS.on (dj := 81) rfl (congrArg Value.bool rfl) ?_
      first | (refine RS.q rfl (QO.loadB ty52 (by rfl) (by repeat (first | exact List.Mem.head _ | refine List.Mem.tail _ ?_)) (by rfl)) ?_) | (refine RS.q rfl (QO.loadA ty52 (by rfl) (by repeat (first | exact List.Mem.head _ | refine List.Mem.tail _ ?_)) (by rfl) (by rfl)) ?_) | (refine RS.q rfl (QO.loadOA ty52 (by rfl) (by assumption) (by rfl)) ?_)
      refine RS.on (dj := 81) rfl (congrArg Value.bool rfl) ?_
      refine RS.call rfl (by rfl) ok28 (by rfl) (fun w ho => sameEdits t t rate rate A76 A k76 c76 n c l l _ hkl76 (ES.eb hEB76 ho (fun b hb => by simp only [List.mem_cons, List.mem_append, hb, or_true, true_or])) hl (hES.own ho) hkm76) ?_
      intro v84 H84 h84
      rw [decide_eq_true ⟨rfl, rfl, rfl⟩] at h84
      obtain ⟨rfl, rfl⟩ := h84
      refine RS.on (dj := 81) rfl (congrArg Value.bool rfl) ?_
      refine RS.q rfl (QO.not (by rfl)) ?_
      refine RS.q rfl (QO.pickF (by rfl) rfl (by rfl)) ?_
      refine RS.nil ?_
      refine thenC_n ?_
      refine CS.condF (by rfl) rfl ?_
      refine CS.skip ?_
      refine cutQ_n (by intro t ht; repeat (first | with_reducible exact rfl | exact frame_puts ht (frame_mix ht) _ rfl | (refine frame_put rfl ht ?_) | (refine frame_puts ht ?_ _ rfl) | exact frame_mix ht | (refine frame_mix2 rfl ht ?_) | exact rfl)) ?_
      refine ⟨(), trivial, (by repeat (first | exact kn_nil | refine kn_cons (by rfl) ?_)), ?_⟩
      refine Sbp.cons (.tail .head) (Sbp.cons (.tail .head) (Sbp.cons (.tail .head) (Sbp.cons (.tail .head) (Sbp.cons (.tail .head) (Sbp.skip (sbp_dropl _ _))))))
    · have hb0p := ne_of_beq_false hb0
      refine CS.skip ?_
      refine cutQ_n (by intro t ht; repeat (first | with_reducible exact rfl | exact frame_puts ht (frame_mix ht) _ rfl | (refine frame_put rfl ht ?_) | (refine frame_puts ht ?_ _ rfl) | exact frame_mix ht | (refine frame_mix2 rfl ht ?_) | exact rfl)) ?_
      exact ⟨(), trivial, (by repeat (first | exact kn_nil | refine kn_cons (by rfl) ?_)), (by repeat (first | exact List.Sublist.refl _ | exact List.nil_sublist _ | refine List.Sublist.cons_cons _ ?_ | refine List.Sublist.cons _ ?_ | exact Sbp.refl | exact Sbp.nil | refine Sbp.cons (by repeat (first | exact Rem.head | apply Rem.tail)) ?_ | exact Sbp.app | refine Sbp.skip ?_))⟩
  · intro z gj hz
    refine CS.seq ?_
    refine CS.seq ?_
    refine CS.region ?_
    refine RS.q rfl (QO.move) ?_
    refine RS.q rfl (QO.eql (by rfl) (by rfl)) ?_
    refine RS.nil ?_
    refine thenC_n ?_
    refine CS.cond (by rfl) (fun hb1 => ?_) (fun hb1 => ?_)
    · have hb1p := eq_of_beq hb1
      refine CS.seq ?_
      refine CS.region ?_
      have hBQ := back_Q trimEL (fun b h1 h2 h3 => trim_far h1 h2 h3) (fun b h => trim_back) (fun b => trimEL_len ..) hQ (by assumption)
      first | (refine RS.q rfl (QO.loadB ty52 (by rfl) (by repeat (first | exact List.Mem.head _ | refine List.Mem.tail _ ?_)) (by rfl)) ?_) | (refine RS.q rfl (QO.loadA ty52 (by rfl) (by repeat (first | exact List.Mem.head _ | refine List.Mem.tail _ ?_)) (by rfl) (by rfl)) ?_) | (refine RS.q rfl (QO.loadOA ty52 (by rfl) (by assumption) (by rfl)) ?_)
      refine RS.q rfl (QO.move) ?_
      refine RS.q rfl (QO.move) ?_
      refine RS.q rfl (QO.neg (by rfl) (by omega) (by omega)) ?_
      refine RS.call rfl (by rfl) ok27 (by rfl) (fun w ho => trim_ q1 q2 A39 k39 c39 q3 i (-by_) _ hq1 hkl39 (ES.eb hEB39 ho (fun b hb => by simp only [List.mem_cons, List.mem_append, hb, or_true, true_or])) hq3 hkm39) ?_
      intro v94 H94 hch94
      have hx94 := chR_Q hBQ.1 hkl39 hch94 (by rw [trimEL_len]; exact hkl39) hkm39
      obtain ⟨A94, k94, c94, hv94, hEB94, hkl94, hkm94⟩ := hx94
      subst hv94
      refine RS.sbpx (H2 := ⟨g13, 52, [sv q1, iv q2, .slice A46 k46 c46]⟩ :: ⟨g11, 52, [sv q1, iv q2, .slice A39 k39 c39]⟩ :: ⟨g9, 52, [sv p1, iv p2, .slice A32 k32 c32]⟩ :: ⟨g7, 52, [sv p1, iv p2, .slice A25 k25 c25]⟩ :: ⟨g3, 52, [sv t, iv rate, .slice A n c]⟩ :: (H94 ++ (H46 ++ (H39 ++ (H32 ++ (H25 ++ [])))))) (sbp_swap [⟨g13, 52, [sv q1, iv q2, .slice A46 k46 c46]⟩, ⟨g11, 52, [sv q1, iv q2, .slice A39 k39 c39]⟩, ⟨g9, 52, [sv p1, iv p2, .slice A32 k32 c32]⟩, ⟨g7, 52, [sv p1, iv p2, .slice A25 k25 c25]⟩, ⟨g3, 52, [sv t, iv rate, .slice A n c]⟩] _ _) ?_
      refine RS.q rfl (QO.move) ?_
      refine RS.q rfl (QO.extract (by rfl) (by rfl)) ?_
      refine RS.q rfl (QO.extract (by rfl) (by rfl)) ?_
      refine RS.alloc rfl ty52 ?_
      intro g17
      first | refine RS.storeB ty52 (by rfl) (by rfl) (by rfl) (by rfl) (by rfl) (by repeat (first | exact Upd.head | apply Upd.tail)) (by rfl) ?_ | refine RS.storeP ty52 (by rfl) (by rfl) (by rfl) (by rfl) (by rfl) (by repeat (first | exact Upd.head | apply Upd.tail)) (by rfl) ?_
      refine RS.q rfl (QO.assign) ?_
      refine RS.nil ?_
      refine thenC_n ?_
      refine CS.seq ?_
      refine CS.region ?_
      refine RS.q rfl (QO.move) ?_
      refine RS.q rfl (QO.neq (by rfl) (by rfl)) ?_
      refine RS.q rfl (QO.move) ?_
      refine RS.on (dj := 99) rfl (congrArg Value.bool rfl) ?_
      first | (refine RS.q rfl (QO.loadB ty52 (by rfl) (by repeat (first | exact List.Mem.head _ | refine List.Mem.tail _ ?_)) (by rfl)) ?_) | (refine RS.q rfl (QO.loadA ty52 (by rfl) (by repeat (first | exact List.Mem.head _ | refine List.Mem.tail _ ?_)) (by rfl) (by rfl)) ?_) | (refine RS.q rfl (QO.loadOA ty52 (by rfl) (by assumption) (by rfl)) ?_)
      refine RS.on (dj := 99) rfl (congrArg Value.bool rfl) ?_
      first | (refine RS.q rfl (QO.loadB ty52 (by rfl) (by repeat (first | exact List.Mem.head _ | refine List.Mem.tail _ ?_)) (by rfl)) ?_) | (refine RS.q rfl (QO.loadA ty52 (by rfl) (by repeat (first | exact List.Mem.head _ | refine List.Mem.tail _ ?_)) (by rfl) (by rfl)) ?_) | (refine RS.q rfl (QO.loadOA ty52 (by rfl) (by assumption) (by rfl)) ?_)
      refine RS.on (dj := 99) rfl (congrArg Value.bool rfl) ?_
      refine RS.call rfl (by rfl) ok28 (by rfl) (fun w ho => sameEdits t t rate rate A94 A k94 c94 n c l l _ hkl94 (ES.eb hEB94 ho (fun b hb => by simp only [List.mem_cons, List.mem_append, hb, or_true, true_or])) hl (hES.own ho) hkm94) ?_
      intro v102 H102 h102
      rw [decide_eq_true ⟨rfl, rfl, rfl⟩] at h102
      obtain ⟨rfl, rfl⟩ := h102
      refine RS.on (dj := 99) rfl (congrArg Value.bool rfl) ?_
      refine RS.q rfl (QO.not (by rfl)) ?_
      refine RS.q rfl (QO.pickF (by rfl) rfl (by rfl)) ?_
      refine RS.nil ?_
      refine thenC_n ?_
      refine CS.condF (by rfl) rfl ?_
      refine CS.skip ?_
      refine thenC_n ?_
      refine CS.seq ?_
      refine CS.region ?_
      refine RS.q rfl (QO.assign) ?_
      refine RS.nil ?_
      refine thenC_n ?_
      refine CS.ret ?_
      refine retQ.mk (H' := []) (.inr rfl) (RVs.tmp (by rfl) RVs.nil) (List.nil_sublist _) ?_
      exact ⟨rfl, rfl⟩
    · have hb1p := ne_of_beq_false hb1
      refine CS.skip ?_
      refine thenC_n ?_
      refine CS.seq ?_
      refine CS.region ?_
      refine RS.q rfl (QO.assign) ?_
      refine RS.nil ?_
      refine thenC_n ?_
      refine CS.ret ?_
      refine retQ.mk (H' := []) (.inr rfl) (RVs.tmp (by rfl) RVs.nil) (List.nil_sublist _) ?_
      exact ⟨rfl, rfl⟩

end Go.Proofs.YtapcgokcfmklbaaDoor
