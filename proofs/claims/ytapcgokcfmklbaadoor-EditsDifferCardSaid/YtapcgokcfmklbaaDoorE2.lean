/-
  Contracts: edit lists checked. Conditions: as each theorem says.
-/
import Derived.Test.YtapcgokcfmklbaaDoorE2a
namespace Go.Proofs.YtapcgokcfmklbaaDoor
open Go Go.Proofs Go.RowKit

set_option maxHeartbeats 8000000 in
set_option maxRecDepth 100000 in
theorem editsError (t : List UInt8) (rate : Int) (A : Option Addr) (n c : Nat) (l : List Ev) (W : World) (ht : t.length ≤ maxLen) (hl : l.length = n) (hES : ES W A l) (hr : ∀ e ∈ l, e.reel.length ≤ maxLen) (hm : n ≤ maxLen) : Fn_ Tryd.prog 39 #[.agg #[sv t, iv rate, .slice A n c]] W (fun v H => v = iv (edE t rate l) ∧ H = []) := by
  subst hl
  unfold maxLen at hm
  refine Fn_.intro Tryd.func39 rfl rfl (by rfl) ?_
  refine CS.seq ?_
  refine CS.region ?_
  refine RS.box rfl (by rfl) (by rfl) ?_
  intro g1
  refine RS.q rfl (QO.assign) ?_
  refine RS.nil ?_
  refine thenC_n ?_
  refine CS.seq ?_
  refine CS.block ?_
  refine CS.seq ?_
  refine CS.region ?_
  refine RS.q rfl (QO.fieldAddr fo52_0 (by rfl)) ?_
  refine RS.q rfl (QO.load ty9 (by rfl) (by repeat (first | exact List.Mem.head _ | refine List.Mem.tail _ ?_)) (by rfl)) ?_
  refine RS.call rfl (by rfl) ok101 (by rfl) (fun w ho => risName t _ ht) ?_
  rintro _ _ ⟨rfl, rfl⟩
  refine RS.q rfl (QO.not (by rfl)) ?_
  refine RS.q rfl (QO.assign) ?_
  refine RS.nil ?_
  refine thenC_n ?_
  refine CS.cond (by rfl) (fun hb0 => ?_) (fun hb0 => ?_)
  · have hb0p := Eq.mp (Bool.not_eq_true' _) hb0
    refine CS.seq ?_
    refine CS.region ?_
    refine RS.q rfl (QO.assign) ?_
    refine RS.nil ?_
    refine thenC_n ?_
    refine CS.ret ?_
    refine blockC_r ?_
    refine thenC_r ?_
    refine retQ.mk (H' := []) (.inr rfl) (RVs.tmp (by rfl) RVs.nil) (List.nil_sublist _) ?_
    exact ⟨congrArg iv (edE_6 (by assumption)).symm, rfl⟩
  have hb0p := Eq.mp (Bool.not_eq_false' _) hb0
  refine CS.seq ?_
  refine CS.region ?_
  refine RS.q rfl (QO.fieldAddr fo52_1 (by rfl)) ?_
  refine RS.q rfl (QO.load ty3 (by rfl) (by repeat (first | exact List.Mem.head _ | refine List.Mem.tail _ ?_)) (by rfl)) ?_
  refine RS.call rfl (by rfl) ok88 (by rfl) (fun w ho => second _ _) ?_
  rintro _ _ ⟨rfl, rfl⟩
  refine RS.q rfl (QO.eql (by rfl) (by rfl)) ?_
  refine RS.q rfl (QO.assign) ?_
  refine RS.nil ?_
  refine thenC_n ?_
  refine CS.cond (by rfl) (fun hb1 => ?_) (fun hb1 => ?_)
  · have hb1p := eq_of_beq hb1
    refine CS.seq ?_
    refine CS.region ?_
    refine RS.q rfl (QO.assign) ?_
    refine RS.nil ?_
    refine thenC_n ?_
    refine CS.ret ?_
    refine blockC_r ?_
    refine thenC_r ?_
    refine retQ.mk (H' := []) (.inr rfl) (RVs.tmp (by rfl) RVs.nil) (List.nil_sublist _) ?_
    exact ⟨congrArg iv (edE_1 (by assumption) (by assumption)).symm, rfl⟩
  have hb1p := ne_of_beq_false hb1
  refine CS.seq ?_
  refine CS.region ?_
  refine RS.q rfl (QO.fieldAddr fo52_2 (by rfl)) ?_
  refine RS.q rfl (QO.load ty50 (by rfl) (by repeat (first | exact List.Mem.head _ | refine List.Mem.tail _ ?_)) (by rfl)) ?_
  refine RS.q rfl (QO.lenS Tryd.underlying50 (by rfl)) ?_
  refine RS.q rfl (QO.gtr (by rfl) (by rfl)) ?_
  refine RS.q rfl (QO.assign) ?_
  refine RS.nil ?_
  refine thenC_n ?_
  refine CS.cond (by rfl) (fun hb2 => ?_) (fun hb2 => ?_)
  · have hb2p := of_decide_eq_true hb2
    refine CS.seq ?_
    refine CS.region ?_
    refine RS.q rfl (QO.assign) ?_
    refine RS.nil ?_
    refine thenC_n ?_
    refine CS.ret ?_
    refine blockC_r ?_
    refine thenC_r ?_
    refine retQ.mk (H' := []) (.inr rfl) (RVs.tmp (by rfl) RVs.nil) (List.nil_sublist _) ?_
    exact ⟨congrArg iv (edE_4 (by assumption) (by assumption) (by omega)).symm, rfl⟩
  have hb2p := of_decide_eq_false hb2
  refine CS.skip ?_
  refine blockC_n ?_
  refine thenC_n ?_
  refine CS.seq ?_
  refine CS.seq ?_
  refine CS.region ?_
  refine RS.q rfl (QO.fieldAddr fo52_2 (by rfl)) ?_
  refine RS.q rfl (QO.load ty50 (by rfl) (by repeat (first | exact List.Mem.head _ | refine List.Mem.tail _ ?_)) (by rfl)) ?_
  refine RS.q rfl (QO.lenS Tryd.underlying50 (by rfl)) ?_
  refine RS.q rfl (QO.move) ?_
  refine RS.nil ?_
  refine thenC_n ?_
  refine CS.block ?_
  have hn : nameB t = true := by assumption
  have hs : sec rate ≠ 0 := by assumption
  have hlen : ¬ 500 < (l.length : Int) := by omega
  refine CS.loop (X := Nat) (2 :: 3 :: 4 :: 5 :: 24 :: 25 :: 26 :: 27 :: 28 :: 29 :: 30 :: 31 :: 32 :: 33 :: 34 :: 35 :: 36 :: 37 :: 38 :: 39 :: 40 :: 41 :: 42 :: 43 :: 44 :: 45 :: 46 :: 47 :: 48 :: 49 :: 50 :: 51 :: 52 :: 53 :: 54 :: 55 :: 56 :: 57 :: 58 :: 59 :: 60 :: 61 :: 62 :: 63 :: 64 :: 65 :: 66 :: 67 :: 68 :: 69 :: 70 :: 71 :: 72 :: 73 :: 74 :: 75 :: 76 :: 77 :: 78 :: 79 :: 80 :: 81 :: 82 :: 83 :: 84 :: 85 :: 86 :: 87 :: 88 :: 89 :: 90 :: 91 :: 92 :: 93 :: 94 :: 95 :: 96 :: 97 :: 98 :: 99 :: 100 :: 101 :: 102 :: 103 :: 104 :: 105 :: 106 :: 107 :: 108 :: 109 :: 110 :: 111 :: 112 :: 113 :: 114 :: 115 :: 116 :: 117 :: 118 :: 119 :: 120 :: 121 :: 122 :: 123 :: 124 :: 125 :: []) (fun k => [(24, iv (k : Int))]) (fun k => [⟨g1, 52, [sv t, iv rate, .slice A l.length c]⟩]) (fun k => k ≤ l.length ∧ firstE (evErr l) k = 0) (fun k => l.length - k) 0 ⟨Nat.zero_le _, rfl⟩ ?_ ?_ ?_
  · exact (by repeat (first | exact kn_nil | refine kn_cons (by rfl) ?_))
  · exact (by repeat (first | exact List.Sublist.refl _ | exact List.nil_sublist _ | refine List.Sublist.cons_cons _ ?_ | refine List.Sublist.cons _ ?_ | exact Sbp.refl | exact Sbp.nil | refine Sbp.cons (by repeat (first | exact Rem.head | apply Rem.tail)) ?_ | exact Sbp.app | refine Sbp.skip ?_))
  intro k gj8 hz
  obtain ⟨hk, hz⟩ := hz
  have heb := endB_bd hz
  refine CS.seq ?_
  refine CS.region ?_
  refine RS.q rfl (QO.lss (by rfl) (by rfl)) ?_
  refine RS.nil ?_
  refine thenC_n ?_
  refine CS.seq ?_
  refine CS.cond (by rfl) (fun hb3 => ?_) (fun hb3 => ?_)
  · have hb3p := of_decide_eq_true hb3
    refine CS.skip ?_
    refine thenC_n ?_
    refine CS.seq ?_
    refine CS.block ?_
    refine CS.seq ?_
    refine CS.region ?_
    refine RS.q rfl (QO.move) ?_
    have hkl : k < l.length := by omega
    have hx1 := hES.at_ hkl
    obtain ⟨bA, oA, hA0, hcell⟩ := hx1
    subst hA0
    have hev : evErr l k = evE1 (l.getD k default) k (endB l k) := rfl
    have hen : endB l (k + 1) = evEnd (l.getD k default) := rfl
    have hrl : (l.getD k default).reel.length ≤ maxLen := hr _ (by rw [List.getD_eq_getElem?_getD, List.getElem?_eq_getElem hkl]; exact List.getElem_mem _)
    have hx2 : ∃ e, l.getD k default = e := ⟨_, rfl⟩
    obtain ⟨e, he⟩ := hx2
    rw [he] at hcell hev hen hrl
    refine RS.q rfl (QO.idx Tryd.underlying50 ty134 (by rfl) (by rfl) (by omega) (by omega)) ?_
    refine RS.q rfl (QO.loadOA ty134 (vs := evc e) (by rfl) hcell (by rfl)) ?_
    refine RS.alloc rfl ty134 ?_
    intro g4
    refine RS.q rfl (QO.assign) ?_
    refine RS.storeB ty134 (by rfl) (by rfl) (by rfl) (by rfl) (by rfl) (by repeat (first | exact Upd.head | apply Upd.tail)) (by rfl) ?_
    refine RS.nil ?_
    refine thenC_n ?_
    refine CS.seq ?_
    refine CS.region ?_
    refine RS.q rfl (QO.assign) ?_
    refine RS.nil ?_
    refine thenC_n ?_
    refine CS.cut (X := Unit) [5, 29, 30, 31, 32, 33, 34, 35, 36, 37] (fun z => [(5, iv (endB l k))]) (fun z => [⟨g4, 134, [sv e.reel, iv e.kind, iv e.len, iv e.inn, iv e.out, iv e.at_]⟩, ⟨g1, 52, [sv t, iv rate, .slice (some ⟨bA, oA, none⟩) l.length c]⟩]) (fun z => True) ?_ ?_
    · refine CS.seq ?_
      refine CS.region ?_
      refine RS.q rfl (QO.move) ?_
      refine RS.q rfl (QO.gtr (by rfl) (by rfl)) ?_
      refine RS.nil ?_
      refine thenC_n ?_
      refine CS.cond (by rfl) (fun hb4 => ?_) (fun hb4 => ?_)
      · have hb4p := of_decide_eq_true hb4
        refine CS.region ?_
        have hx3 := hES.at_ (show k - 1 < l.length by omega)
        obtain ⟨bA2, oA2, hA2, hcel2⟩ := hx3
        obtain ⟨rfl, rfl⟩ : bA = bA2 ∧ oA = oA2 := by injection hA2 with hA2; injection hA2 with a1 a2; exact ⟨a1, a2⟩
        have hpk := evE1_ok (firstE_all hz (k - 1) (by omega))
        refine RS.q rfl (QO.fieldAddr fo52_2 (by rfl)) ?_
        refine RS.q rfl (QO.load ty50 (by rfl) (by repeat (first | exact List.Mem.head _ | refine List.Mem.tail _ ?_)) (by rfl)) ?_
        refine RS.q rfl (QO.move) ?_
        refine RS.qv rfl (QO.sub (by rfl) (by rfl) (by omega) (by omega)) (congrArg iv (show (k : Int) - 1 = ((k - 1 : Nat) : Int) by omega)) ?_
        refine RS.q rfl (QO.idx Tryd.underlying50 ty134 (by rfl) (by rfl) (by omega) (by omega)) ?_
        refine RS.q rfl (QO.loadOA ty134 (vs := evc (l.getD (k - 1) default)) (by rfl) hcel2 (by rfl)) ?_
        refine RS.call rfl (by rfl) ok102 (by rfl) (fun w ho => rend (l.getD (k - 1) default) _ (by omega) (by omega)) ?_
        rintro _ _ ⟨rfl, rfl⟩
        refine RS.q rfl (QO.assign) ?_
        refine RS.nil ?_
        refine cutQ_n (by intro t ht; repeat (first | with_reducible exact rfl | exact frame_puts ht (frame_mix ht) _ rfl | (refine frame_put rfl ht ?_) | (refine frame_puts ht ?_ _ rfl) | exact frame_mix ht | (refine frame_mix2 rfl ht ?_) | exact rfl)) ?_
        exact ⟨(), trivial, kn_cons (congrArg iv (show evEnd (l.getD (k - 1) default) = endB l k from (if_neg (by omega)).symm)) kn_nil, (by repeat (first | exact List.Sublist.refl _ | exact List.nil_sublist _ | refine List.Sublist.cons_cons _ ?_ | refine List.Sublist.cons _ ?_ | exact Sbp.refl | exact Sbp.nil | refine Sbp.cons (by repeat (first | exact Rem.head | apply Rem.tail)) ?_ | exact Sbp.app | refine Sbp.skip ?_))⟩
      have hb4p := of_decide_eq_false hb4
      refine CS.skip ?_
      refine cutQ_n (by intro t ht; repeat (first | with_reducible exact rfl | exact frame_puts ht (frame_mix ht) _ rfl | (refine frame_put rfl ht ?_) | (refine frame_puts ht ?_ _ rfl) | exact frame_mix ht | (refine frame_mix2 rfl ht ?_) | exact rfl)) ?_
      exact ⟨(), trivial, kn_cons (congrArg iv (show 0 = endB l k from (if_pos (by omega)).symm)) kn_nil, (by repeat (first | exact List.Sublist.refl _ | exact List.nil_sublist _ | refine List.Sublist.cons_cons _ ?_ | refine List.Sublist.cons _ ?_ | exact Sbp.refl | exact Sbp.nil | refine Sbp.cons (by repeat (first | exact Rem.head | apply Rem.tail)) ?_ | exact Sbp.app | refine Sbp.skip ?_))⟩
    intro z gj hz
    clear hz
    refine CS.block ?_
    refine CS.seq ?_
    refine CS.region ?_
    refine RS.q rfl (QO.fieldAddr fo134_0 (by rfl)) ?_
    refine RS.q rfl (QO.load ty9 (by rfl) (by repeat (first | exact List.Mem.head _ | refine List.Mem.tail _ ?_)) (by rfl)) ?_
    refine RS.call rfl (by rfl) ok101 (by rfl) (fun w ho => risName e.reel _ hrl) ?_
    rintro _ _ ⟨rfl, rfl⟩
    refine RS.q rfl (QO.not (by rfl)) ?_
    refine RS.q rfl (QO.assign) ?_
    refine RS.nil ?_
    refine thenC_n ?_
    refine CS.cond (by rfl) (fun hb5 => ?_) (fun hb5 => ?_)
    · have hb5p := Eq.mp (Bool.not_eq_true' _) hb5
      refine CS.seq ?_
      refine CS.region ?_
      refine RS.q rfl (QO.assign) ?_
      refine RS.nil ?_
      refine thenC_n ?_
      refine CS.ret ?_
      refine blockC_r ?_
      refine blockC_r ?_
      refine thenC_r ?_
      refine loopQ_r ?_
      refine blockC_r ?_
      refine thenC_r ?_
      refine retQ.mk (H' := []) (.inr rfl) (RVs.tmp (by rfl) RVs.nil) (List.nil_sublist _) ?_
      exact ⟨congrArg iv (edE_at hn hs hlen hz (by omega) (hev.trans (evE1_6 (by assumption))) (by decide)).symm, rfl⟩
    have hb5p := Eq.mp (Bool.not_eq_false' _) hb5
    refine CS.seq ?_
    refine CS.region ?_
    refine RS.q rfl (QO.fieldAddr fo134_1 (by rfl)) ?_
    refine RS.q rfl (QO.load ty3 (by rfl) (by repeat (first | exact List.Mem.head _ | refine List.Mem.tail _ ?_)) (by rfl)) ?_
    refine RS.q rfl (QO.neq (by rfl) (by rfl)) ?_
    refine RS.q rfl (QO.move) ?_
    refine RS.split (dj := 47) (by rfl) (fun hb6 => ?_) (fun hb6 => ?_)
    · have hb6p := bne_iff_ne.1 hb6
      refine RS.on (dj := 47) rfl (congrArg Value.bool hb6) ?_
      refine RS.q rfl (QO.fieldAddr fo134_1 (by rfl)) ?_
      refine RS.on (dj := 47) rfl (congrArg Value.bool hb6) ?_
      refine RS.q rfl (QO.load ty3 (by rfl) (by repeat (first | exact List.Mem.head _ | refine List.Mem.tail _ ?_)) (by rfl)) ?_
      refine RS.on (dj := 47) rfl (congrArg Value.bool hb6) ?_
      refine RS.q rfl (QO.neq (by rfl) (by rfl)) ?_
      refine RS.q rfl (QO.pickT (by rfl) hb6 (by rfl)) ?_
      refine RS.q rfl (QO.assign) ?_
      refine RS.nil ?_
      refine thenC_n ?_
      refine CS.cond (by rfl) (fun hb7 => ?_) (fun hb7 => ?_)
      · have hb7p := bne_iff_ne.1 hb7
        refine CS.seq ?_
        refine CS.region ?_
        refine RS.q rfl (QO.assign) ?_
        refine RS.nil ?_
        refine thenC_n ?_
        refine CS.ret ?_
        refine blockC_r ?_
        refine blockC_r ?_
        refine thenC_r ?_
        refine loopQ_r ?_
        refine blockC_r ?_
        refine thenC_r ?_
        refine retQ.mk (H' := []) (.inr rfl) (RVs.tmp (by rfl) RVs.nil) (List.nil_sublist _) ?_
        exact ⟨congrArg iv (edE_at hn hs hlen hz (by omega) (hev.trans (evE1_1 (by assumption) (by refine ⟨?_, ?_⟩ <;> omega))) (by decide)).symm, rfl⟩
      have hb7p := of_bne_false hb7
      refine CS.seq ?_
      refine CS.region ?_
      refine RS.q rfl (QO.fieldAddr fo134_3 (by rfl)) ?_
      refine RS.q rfl (QO.load ty3 (by rfl) (by repeat (first | exact List.Mem.head _ | refine List.Mem.tail _ ?_)) (by rfl)) ?_
      refine RS.q rfl (QO.lss (by rfl) (by rfl)) ?_
      refine RS.q rfl (QO.move) ?_
      refine RS.split (dj := 56) (by rfl) (fun hb8 => ?_) (fun hb8 => ?_)
      · have hb8p := of_decide_eq_true hb8
        refine RS.off (dj := 56) rfl (.inl (congrArg Value.bool hb8)) (fun _ => rfl) rfl ?_
        refine RS.off (dj := 56) rfl (.inl (congrArg Value.bool hb8)) (fun _ => rfl) rfl ?_
        refine RS.off (dj := 56) rfl (.inl (congrArg Value.bool hb8)) (fun _ => rfl) rfl ?_
        refine RS.off (dj := 56) rfl (.inl (congrArg Value.bool hb8)) (fun _ => rfl) rfl ?_
        refine RS.off (dj := 56) rfl (.inl (congrArg Value.bool hb8)) (fun _ => rfl) rfl ?_
        refine RS.q rfl (QO.pickT (by rfl) hb8 (by rfl)) ?_
        refine RS.q rfl (QO.move) ?_
        refine RS.off (dj := 63) rfl (.inl (congrArg Value.bool rfl)) (fun _ => rfl) rfl ?_
        refine RS.off (dj := 63) rfl (.inl (congrArg Value.bool rfl)) (fun _ => rfl) rfl ?_
        refine RS.off (dj := 63) rfl (.inl (congrArg Value.bool rfl)) (fun _ => rfl) rfl ?_
        refine RS.q rfl (QO.pickT (by rfl) rfl (by rfl)) ?_
        refine RS.q rfl (QO.move) ?_
        refine RS.off (dj := 68) rfl (.inl (congrArg Value.bool rfl)) (fun _ => rfl) rfl ?_
        refine RS.off (dj := 68) rfl (.inl (congrArg Value.bool rfl)) (fun _ => rfl) rfl ?_
        refine RS.off (dj := 68) rfl (.inl (congrArg Value.bool rfl)) (fun _ => rfl) rfl ?_
        refine RS.q rfl (QO.pickT (by rfl) rfl (by rfl)) ?_
        refine RS.q rfl (QO.move) ?_
        refine RS.off (dj := 73) rfl (.inl (congrArg Value.bool rfl)) (fun _ => rfl) rfl ?_
        refine RS.off (dj := 73) rfl (.inl (congrArg Value.bool rfl)) (fun _ => rfl) rfl ?_
        refine RS.off (dj := 73) rfl (.inl (congrArg Value.bool rfl)) (fun _ => rfl) rfl ?_
        refine RS.q rfl (QO.pickT (by rfl) rfl (by rfl)) ?_
        refine RS.q rfl (QO.assign) ?_
        refine RS.nil ?_
        refine thenC_n ?_
        refine CS.condT (by rfl) rfl ?_
        refine CS.seq ?_
        refine CS.region ?_
        refine RS.q rfl (QO.assign) ?_
        refine RS.nil ?_
        refine thenC_n ?_
        refine CS.ret ?_
        refine blockC_r ?_
        refine blockC_r ?_
        refine thenC_r ?_
        refine loopQ_r ?_
        refine blockC_r ?_
        refine thenC_r ?_
        refine retQ.mk (H' := []) (.inr rfl) (RVs.tmp (by rfl) RVs.nil) (List.nil_sublist _) ?_
        exact ⟨congrArg iv (edE_at hn hs hlen hz (by omega) (hev.trans (evE1_3 (by assumption) (by omega) (by omega))) (by decide)).symm, rfl⟩
      have hb8p := of_decide_eq_false hb8
      refine RS.on (dj := 56) rfl (congrArg Value.bool hb8) ?_
      refine RS.q rfl (QO.fieldAddr fo134_4 (by rfl)) ?_
      refine RS.on (dj := 56) rfl (congrArg Value.bool hb8) ?_
      refine RS.q rfl (QO.load ty3 (by rfl) (by repeat (first | exact List.Mem.head _ | refine List.Mem.tail _ ?_)) (by rfl)) ?_
      refine RS.on (dj := 56) rfl (congrArg Value.bool hb8) ?_
      refine RS.q rfl (QO.fieldAddr fo134_3 (by rfl)) ?_
      refine RS.on (dj := 56) rfl (congrArg Value.bool hb8) ?_
      refine RS.q rfl (QO.load ty3 (by rfl) (by repeat (first | exact List.Mem.head _ | refine List.Mem.tail _ ?_)) (by rfl)) ?_
      refine RS.on (dj := 56) rfl (congrArg Value.bool hb8) ?_
      refine RS.q rfl (QO.leq (by rfl) (by rfl)) ?_
      refine RS.q rfl (QO.pickF (by rfl) hb8 (by rfl)) ?_
      refine RS.q rfl (QO.move) ?_
      refine RS.split (dj := 63) (by rfl) (fun hb9 => ?_) (fun hb9 => ?_)
      · have hb9p := of_decide_eq_true hb9
        refine RS.off (dj := 63) rfl (.inl (congrArg Value.bool hb9)) (fun _ => rfl) rfl ?_
        refine RS.off (dj := 63) rfl (.inl (congrArg Value.bool hb9)) (fun _ => rfl) rfl ?_
        refine RS.off (dj := 63) rfl (.inl (congrArg Value.bool hb9)) (fun _ => rfl) rfl ?_
        refine RS.q rfl (QO.pickT (by rfl) hb9 (by rfl)) ?_
        refine RS.q rfl (QO.move) ?_
        refine RS.off (dj := 68) rfl (.inl (congrArg Value.bool rfl)) (fun _ => rfl) rfl ?_
        refine RS.off (dj := 68) rfl (.inl (congrArg Value.bool rfl)) (fun _ => rfl) rfl ?_
        refine RS.off (dj := 68) rfl (.inl (congrArg Value.bool rfl)) (fun _ => rfl) rfl ?_
        refine RS.q rfl (QO.pickT (by rfl) rfl (by rfl)) ?_
        refine RS.q rfl (QO.move) ?_
        refine RS.off (dj := 73) rfl (.inl (congrArg Value.bool rfl)) (fun _ => rfl) rfl ?_
        refine RS.off (dj := 73) rfl (.inl (congrArg Value.bool rfl)) (fun _ => rfl) rfl ?_
        refine RS.off (dj := 73) rfl (.inl (congrArg Value.bool rfl)) (fun _ => rfl) rfl ?_
        refine RS.q rfl (QO.pickT (by rfl) rfl (by rfl)) ?_
        refine RS.q rfl (QO.assign) ?_
        refine RS.nil ?_
        refine thenC_n ?_
        refine CS.condT (by rfl) rfl ?_
        refine CS.seq ?_
        refine CS.region ?_
        refine RS.q rfl (QO.assign) ?_
        refine RS.nil ?_
        refine thenC_n ?_
        refine CS.ret ?_
        refine blockC_r ?_
        refine blockC_r ?_
        refine thenC_r ?_
        refine loopQ_r ?_
        refine blockC_r ?_
        refine thenC_r ?_
        refine retQ.mk (H' := []) (.inr rfl) (RVs.tmp (by rfl) RVs.nil) (List.nil_sublist _) ?_
        exact ⟨congrArg iv (edE_at hn hs hlen hz (by omega) (hev.trans (evE1_3 (by assumption) (by omega) (by omega))) (by decide)).symm, rfl⟩
      have hb9p := of_decide_eq_false hb9
      refine RS.on (dj := 63) rfl (congrArg Value.bool hb9) ?_
      refine RS.q rfl (QO.fieldAddr fo134_4 (by rfl)) ?_
      refine RS.on (dj := 63) rfl (congrArg Value.bool hb9) ?_
      refine RS.q rfl (QO.load ty3 (by rfl) (by repeat (first | exact List.Mem.head _ | refine List.Mem.tail _ ?_)) (by rfl)) ?_
      refine RS.on (dj := 63) rfl (congrArg Value.bool hb9) ?_
      refine RS.q rfl (QO.gtr (by rfl) (by rfl)) ?_
      refine RS.q rfl (QO.pickF (by rfl) hb9 (by rfl)) ?_
      refine RS.q rfl (QO.move) ?_
      refine RS.split (dj := 68) (by rfl) (fun hb10 => ?_) (fun hb10 => ?_)
      · have hb10p := of_decide_eq_true hb10
        refine RS.off (dj := 68) rfl (.inl (congrArg Value.bool hb10)) (fun _ => rfl) rfl ?_
        refine RS.off (dj := 68) rfl (.inl (congrArg Value.bool hb10)) (fun _ => rfl) rfl ?_
        refine RS.off (dj := 68) rfl (.inl (congrArg Value.bool hb10)) (fun _ => rfl) rfl ?_
        refine RS.q rfl (QO.pickT (by rfl) hb10 (by rfl)) ?_
        refine RS.q rfl (QO.move) ?_
        refine RS.off (dj := 73) rfl (.inl (congrArg Value.bool rfl)) (fun _ => rfl) rfl ?_
        refine RS.off (dj := 73) rfl (.inl (congrArg Value.bool rfl)) (fun _ => rfl) rfl ?_
        refine RS.off (dj := 73) rfl (.inl (congrArg Value.bool rfl)) (fun _ => rfl) rfl ?_
        refine RS.q rfl (QO.pickT (by rfl) rfl (by rfl)) ?_
        refine RS.q rfl (QO.assign) ?_
        refine RS.nil ?_
        refine thenC_n ?_
        refine CS.condT (by rfl) rfl ?_
        refine CS.seq ?_
        refine CS.region ?_
        refine RS.q rfl (QO.assign) ?_
        refine RS.nil ?_
        refine thenC_n ?_
        refine CS.ret ?_
        refine blockC_r ?_
        refine blockC_r ?_
        refine thenC_r ?_
        refine loopQ_r ?_
        refine blockC_r ?_
        refine thenC_r ?_
        refine retQ.mk (H' := []) (.inr rfl) (RVs.tmp (by rfl) RVs.nil) (List.nil_sublist _) ?_
        exact ⟨congrArg iv (edE_at hn hs hlen hz (by omega) (hev.trans (evE1_3 (by assumption) (by omega) (by omega))) (by decide)).symm, rfl⟩
      have hb10p := of_decide_eq_false hb10
      refine RS.on (dj := 68) rfl (congrArg Value.bool hb10) ?_
      refine RS.q rfl (QO.fieldAddr fo134_5 (by rfl)) ?_
      refine RS.on (dj := 68) rfl (congrArg Value.bool hb10) ?_
      refine RS.q rfl (QO.load ty3 (by rfl) (by repeat (first | exact List.Mem.head _ | refine List.Mem.tail _ ?_)) (by rfl)) ?_
      refine RS.on (dj := 68) rfl (congrArg Value.bool hb10) ?_
      refine RS.q rfl (QO.gtr (by rfl) (by rfl)) ?_
      refine RS.q rfl (QO.pickF (by rfl) hb10 (by rfl)) ?_
      refine RS.q rfl (QO.move) ?_
      refine RS.split (dj := 73) (by rfl) (fun hb11 => ?_) (fun hb11 => ?_)
      · have hb11p := of_decide_eq_true hb11
        refine RS.off (dj := 73) rfl (.inl (congrArg Value.bool hb11)) (fun _ => rfl) rfl ?_
        refine RS.off (dj := 73) rfl (.inl (congrArg Value.bool hb11)) (fun _ => rfl) rfl ?_
        refine RS.off (dj := 73) rfl (.inl (congrArg Value.bool hb11)) (fun _ => rfl) rfl ?_
        refine RS.q rfl (QO.pickT (by rfl) hb11 (by rfl)) ?_
        refine RS.q rfl (QO.assign) ?_
        refine RS.nil ?_
        refine thenC_n ?_
        refine CS.condT (by rfl) rfl ?_
        refine CS.seq ?_
        refine CS.region ?_
        refine RS.q rfl (QO.assign) ?_
        refine RS.nil ?_
        refine thenC_n ?_
        refine CS.ret ?_
        refine blockC_r ?_
        refine blockC_r ?_
        refine thenC_r ?_
        refine loopQ_r ?_
        refine blockC_r ?_
        refine thenC_r ?_
        refine retQ.mk (H' := []) (.inr rfl) (RVs.tmp (by rfl) RVs.nil) (List.nil_sublist _) ?_
        exact ⟨congrArg iv (edE_at hn hs hlen hz (by omega) (hev.trans (evE1_3 (by assumption) (by omega) (by omega))) (by decide)).symm, rfl⟩
      have hb11p := of_decide_eq_false hb11
      refine RS.on (dj := 73) rfl (congrArg Value.bool hb11) ?_
      refine RS.q rfl (QO.fieldAddr fo134_5 (by rfl)) ?_
      refine RS.on (dj := 73) rfl (congrArg Value.bool hb11) ?_
      refine RS.q rfl (QO.load ty3 (by rfl) (by repeat (first | exact List.Mem.head _ | refine List.Mem.tail _ ?_)) (by rfl)) ?_
      refine RS.on (dj := 73) rfl (congrArg Value.bool hb11) ?_
      refine RS.q rfl (QO.lss (by rfl) (by rfl)) ?_
      refine RS.q rfl (QO.pickF (by rfl) hb11 (by rfl)) ?_
      refine RS.q rfl (QO.assign) ?_
      refine RS.nil ?_
      refine thenC_n ?_
      refine CS.cond (by rfl) (fun hb12 => ?_) (fun hb12 => ?_)
      · have hb12p := of_decide_eq_true hb12
        refine CS.seq ?_
        refine CS.region ?_
        refine RS.q rfl (QO.assign) ?_
        refine RS.nil ?_
        refine thenC_n ?_
        refine CS.ret ?_
        refine blockC_r ?_
        refine blockC_r ?_
        refine thenC_r ?_
        refine loopQ_r ?_
        refine blockC_r ?_
        refine thenC_r ?_
        refine retQ.mk (H' := []) (.inr rfl) (RVs.tmp (by rfl) RVs.nil) (List.nil_sublist _) ?_
        exact ⟨congrArg iv (edE_at hn hs hlen hz (by omega) (hev.trans (evE1_3 (by assumption) (by omega) (by omega))) (by decide)).symm, rfl⟩
      have hb12p := of_decide_eq_false hb12
      refine CS.seq ?_
      refine CS.region ?_
      refine RS.q rfl (QO.fieldAddr fo134_5 (by rfl)) ?_
      refine RS.q rfl (QO.load ty3 (by rfl) (by repeat (first | exact List.Mem.head _ | refine List.Mem.tail _ ?_)) (by rfl)) ?_
      refine RS.q rfl (QO.move) ?_
      refine RS.q rfl (QO.lss (by rfl) (by rfl)) ?_
      refine RS.q rfl (QO.assign) ?_
      refine RS.nil ?_
      refine thenC_n ?_
      refine CS.cond (by rfl) (fun hb13 => ?_) (fun hb13 => ?_)
      · have hb13p := of_decide_eq_true hb13
        refine CS.seq ?_
        refine CS.region ?_
        refine RS.q rfl (QO.assign) ?_
        refine RS.nil ?_
        refine thenC_n ?_
        refine CS.ret ?_
        refine blockC_r ?_
        refine blockC_r ?_
        refine thenC_r ?_
        refine loopQ_r ?_
        refine blockC_r ?_
        refine thenC_r ?_
        refine retQ.mk (H' := []) (.inr rfl) (RVs.tmp (by rfl) RVs.nil) (List.nil_sublist _) ?_
        exact ⟨congrArg iv (edE_at hn hs hlen hz (by omega) (hev.trans (evE1_8 (by assumption) (by omega) (by omega) (by omega))) (by decide)).symm, rfl⟩
      have hb13p := of_decide_eq_false hb13
      refine CS.seq ?_
      refine CS.seq ?_
      refine CS.region ?_
      refine RS.q rfl (QO.fieldAddr fo134_1 (by rfl)) ?_
      refine RS.q rfl (QO.load ty3 (by rfl) (by repeat (first | exact List.Mem.head _ | refine List.Mem.tail _ ?_)) (by rfl)) ?_
      refine RS.q rfl (QO.eql (by rfl) (by rfl)) ?_
      refine RS.q rfl (QO.move) ?_
      refine RS.split (dj := 87) (by rfl) (fun hb14 => ?_) (fun hb14 => ?_)
      · have hb14p := eq_of_beq hb14
        refine RS.on (dj := 87) rfl (congrArg Value.bool hb14) ?_
        refine RS.q rfl (QO.fieldAddr fo134_2 (by rfl)) ?_
        refine RS.on (dj := 87) rfl (congrArg Value.bool hb14) ?_
        refine RS.q rfl (QO.load ty3 (by rfl) (by repeat (first | exact List.Mem.head _ | refine List.Mem.tail _ ?_)) (by rfl)) ?_
        refine RS.on (dj := 87) rfl (congrArg Value.bool hb14) ?_
        refine RS.q rfl (QO.neq (by rfl) (by rfl)) ?_
        refine RS.q rfl (QO.pickT (by rfl) hb14 (by rfl)) ?_
        refine RS.q rfl (QO.assign) ?_
        refine RS.nil ?_
        refine thenC_n ?_
        refine CS.cond (by rfl) (fun hb15 => ?_) (fun hb15 => ?_)
        · have hb15p := bne_iff_ne.1 hb15
          refine CS.skip ?_
          refine thenC_n ?_
          refine CS.condT (by rfl) hb15 ?_
          refine CS.seq ?_
          refine CS.region ?_
          refine RS.q rfl (QO.assign) ?_
          refine RS.nil ?_
          refine thenC_n ?_
          refine CS.ret ?_
          refine blockC_r ?_
          refine blockC_r ?_
          refine thenC_r ?_
          refine loopQ_r ?_
          refine blockC_r ?_
          refine thenC_r ?_
          refine retQ.mk (H' := []) (.inr rfl) (RVs.tmp (by rfl) RVs.nil) (List.nil_sublist _) ?_
          exact ⟨congrArg iv (edE_at hn hs hlen hz (by omega) (hev.trans (evE1_12 (by assumption) (by omega) (by omega) (by omega) (by omega))) (by decide)).symm, rfl⟩
        have hb15p := of_bne_false hb15
        refine CS.region ?_
        refine RS.q rfl (QO.fieldAddr fo134_1 (by rfl)) ?_
        refine RS.q rfl (QO.load ty3 (by rfl) (by repeat (first | exact List.Mem.head _ | refine List.Mem.tail _ ?_)) (by rfl)) ?_
        refine RS.q rfl (QO.eql (by rfl) (by rfl)) ?_
        refine RS.q rfl (QO.move) ?_
        refine RS.split (dj := 95) (by rfl) (fun hb16 => ?_) (fun hb16 => ?_)
        · have hb16p := eq_of_beq hb16
          refine RS.on (dj := 95) rfl (congrArg Value.bool hb16) ?_
          refine RS.q rfl (QO.fieldAddr fo134_2 (by rfl)) ?_
          refine RS.on (dj := 95) rfl (congrArg Value.bool hb16) ?_
          refine RS.q rfl (QO.load ty3 (by rfl) (by repeat (first | exact List.Mem.head _ | refine List.Mem.tail _ ?_)) (by rfl)) ?_
          refine RS.on (dj := 95) rfl (congrArg Value.bool hb16) ?_
          refine RS.q rfl (QO.lss (by rfl) (by rfl)) ?_
          refine RS.on (dj := 95) rfl (congrArg Value.bool hb16) ?_
          refine RS.q rfl (QO.move) ?_
          refine RS.split (dj := 99) (by rfl) (fun hb17 => ?_) (fun hb17 => ?_)
          · have hb17p := of_decide_eq_true hb17
            refine RS.off (dj := 99) rfl (.inl (congrArg Value.bool hb17)) (fun _ => rfl) rfl ?_
            refine RS.off (dj := 99) rfl (.inl (congrArg Value.bool hb17)) (fun _ => rfl) rfl ?_
            refine RS.off (dj := 99) rfl (.inl (congrArg Value.bool hb17)) (fun _ => rfl) rfl ?_
            refine RS.off (dj := 99) rfl (.inl (congrArg Value.bool hb17)) (fun _ => rfl) rfl ?_
            refine RS.off (dj := 99) rfl (.inl (congrArg Value.bool hb17)) (fun _ => rfl) rfl ?_
            refine RS.off (dj := 99) rfl (.inl (congrArg Value.bool hb17)) (fun _ => rfl) rfl ?_
            refine RS.off (dj := 99) rfl (.inl (congrArg Value.bool hb17)) (fun _ => rfl) rfl ?_
            refine RS.off (dj := 99) rfl (.inl (congrArg Value.bool hb17)) (fun _ => rfl) rfl ?_
            refine RS.on (dj := 95) rfl (congrArg Value.bool hb16) ?_
            refine RS.q rfl (QO.pickT (by rfl) hb17 (by rfl)) ?_
            refine RS.on (dj := 95) rfl (congrArg Value.bool hb16) ?_
            refine RS.q rfl (QO.move) ?_
            refine RS.off (dj := 109) rfl (.inl (congrArg Value.bool rfl)) (fun _ => rfl) rfl ?_
            refine RS.off (dj := 109) rfl (.inl (congrArg Value.bool rfl)) (fun _ => rfl) rfl ?_
            refine RS.off (dj := 109) rfl (.inl (congrArg Value.bool rfl)) (fun _ => rfl) rfl ?_
            refine RS.on (dj := 95) rfl (congrArg Value.bool hb16) ?_
            refine RS.q rfl (QO.pickT (by rfl) rfl (by rfl)) ?_
            refine RS.on (dj := 95) rfl (congrArg Value.bool hb16) ?_
            refine RS.q rfl (QO.move) ?_
            refine RS.off (dj := 114) rfl (.inl (congrArg Value.bool rfl)) (fun _ => rfl) rfl ?_
            refine RS.off (dj := 114) rfl (.inl (congrArg Value.bool rfl)) (fun _ => rfl) rfl ?_
            refine RS.on (dj := 95) rfl (congrArg Value.bool hb16) ?_
            refine RS.q rfl (QO.pickT (by rfl) rfl (by rfl)) ?_
            refine RS.on (dj := 95) rfl (congrArg Value.bool hb16) ?_
            refine RS.q rfl (QO.move) ?_
            refine RS.off (dj := 118) rfl (.inl (congrArg Value.bool rfl)) (fun _ => rfl) rfl ?_
            refine RS.off (dj := 118) rfl (.inl (congrArg Value.bool rfl)) (fun _ => rfl) rfl ?_
            refine RS.off (dj := 118) rfl (.inl (congrArg Value.bool rfl)) (fun _ => rfl) rfl ?_
            refine RS.off (dj := 118) rfl (.inl (congrArg Value.bool rfl)) (fun _ => rfl) rfl ?_
            refine RS.on (dj := 95) rfl (congrArg Value.bool hb16) ?_
            refine RS.q rfl (QO.pickT (by rfl) rfl (by rfl)) ?_
            refine RS.q rfl (QO.pickT (by rfl) hb16 (by rfl)) ?_
            refine RS.q rfl (QO.assign) ?_
            refine RS.nil ?_
            refine thenC_n ?_
            refine CS.condT (by rfl) rfl ?_
            refine CS.seq ?_
            refine CS.region ?_
            refine RS.q rfl (QO.assign) ?_
            refine RS.nil ?_
            refine thenC_n ?_
            refine CS.ret ?_
            refine blockC_r ?_
            refine blockC_r ?_
            refine thenC_r ?_
            refine loopQ_r ?_
            refine blockC_r ?_
            refine thenC_r ?_
            refine retQ.mk (H' := []) (.inr rfl) (RVs.tmp (by rfl) RVs.nil) (List.nil_sublist _) ?_
            exact ⟨congrArg iv (edE_at hn hs hlen hz (by omega) (hev.trans (evE1_12 (by assumption) (by omega) (by omega) (by omega) (by omega))) (by decide)).symm, rfl⟩
          have hb17p := of_decide_eq_false hb17
          refine RS.on (dj := 99) rfl (congrArg Value.bool hb17) ?_
          refine RS.q rfl (QO.fieldAddr fo134_2 (by rfl)) ?_
          refine RS.on (dj := 99) rfl (congrArg Value.bool hb17) ?_
          refine RS.q rfl (QO.load ty3 (by rfl) (by repeat (first | exact List.Mem.head _ | refine List.Mem.tail _ ?_)) (by rfl)) ?_
          refine RS.on (dj := 99) rfl (congrArg Value.bool hb17) ?_
          refine RS.q rfl (QO.fieldAddr fo134_4 (by rfl)) ?_
          refine RS.on (dj := 99) rfl (congrArg Value.bool hb17) ?_
          refine RS.q rfl (QO.load ty3 (by rfl) (by repeat (first | exact List.Mem.head _ | refine List.Mem.tail _ ?_)) (by rfl)) ?_
          refine RS.on (dj := 99) rfl (congrArg Value.bool hb17) ?_
          refine RS.q rfl (QO.fieldAddr fo134_3 (by rfl)) ?_
          refine RS.on (dj := 99) rfl (congrArg Value.bool hb17) ?_
          refine RS.q rfl (QO.load ty3 (by rfl) (by repeat (first | exact List.Mem.head _ | refine List.Mem.tail _ ?_)) (by rfl)) ?_
          refine RS.on (dj := 99) rfl (congrArg Value.bool hb17) ?_
          refine RS.q rfl (QO.sub (by rfl) (by rfl) (by omega) (by omega)) ?_
          refine RS.on (dj := 99) rfl (congrArg Value.bool hb17) ?_
          refine RS.q rfl (QO.gtr (by rfl) (by rfl)) ?_
          refine RS.on (dj := 95) rfl (congrArg Value.bool hb16) ?_
          refine RS.q rfl (QO.pickF (by rfl) hb17 (by rfl)) ?_
          refine RS.on (dj := 95) rfl (congrArg Value.bool hb16) ?_
          refine RS.q rfl (QO.move) ?_
          refine RS.split (dj := 109) (by rfl) (fun hb18 => ?_) (fun hb18 => ?_)
          · have hb18p := of_decide_eq_true hb18
            refine RS.off (dj := 109) rfl (.inl (congrArg Value.bool hb18)) (fun _ => rfl) rfl ?_
            refine RS.off (dj := 109) rfl (.inl (congrArg Value.bool hb18)) (fun _ => rfl) rfl ?_
            refine RS.off (dj := 109) rfl (.inl (congrArg Value.bool hb18)) (fun _ => rfl) rfl ?_
            refine RS.on (dj := 95) rfl (congrArg Value.bool hb16) ?_
            refine RS.q rfl (QO.pickT (by rfl) hb18 (by rfl)) ?_
            refine RS.on (dj := 95) rfl (congrArg Value.bool hb16) ?_
            refine RS.q rfl (QO.move) ?_
            refine RS.off (dj := 114) rfl (.inl (congrArg Value.bool rfl)) (fun _ => rfl) rfl ?_
            refine RS.off (dj := 114) rfl (.inl (congrArg Value.bool rfl)) (fun _ => rfl) rfl ?_
            refine RS.on (dj := 95) rfl (congrArg Value.bool hb16) ?_
            refine RS.q rfl (QO.pickT (by rfl) rfl (by rfl)) ?_
            refine RS.on (dj := 95) rfl (congrArg Value.bool hb16) ?_
            refine RS.q rfl (QO.move) ?_
            refine RS.off (dj := 118) rfl (.inl (congrArg Value.bool rfl)) (fun _ => rfl) rfl ?_
            refine RS.off (dj := 118) rfl (.inl (congrArg Value.bool rfl)) (fun _ => rfl) rfl ?_
            refine RS.off (dj := 118) rfl (.inl (congrArg Value.bool rfl)) (fun _ => rfl) rfl ?_
            refine RS.off (dj := 118) rfl (.inl (congrArg Value.bool rfl)) (fun _ => rfl) rfl ?_
            refine RS.on (dj := 95) rfl (congrArg Value.bool hb16) ?_
            refine RS.q rfl (QO.pickT (by rfl) rfl (by rfl)) ?_
            refine RS.q rfl (QO.pickT (by rfl) hb16 (by rfl)) ?_
            refine RS.q rfl (QO.assign) ?_
            refine RS.nil ?_
            refine thenC_n ?_
            refine CS.condT (by rfl) rfl ?_
            refine CS.seq ?_
            refine CS.region ?_
            refine RS.q rfl (QO.assign) ?_
            refine RS.nil ?_
            refine thenC_n ?_
            refine CS.ret ?_
            refine blockC_r ?_
            refine blockC_r ?_
            refine thenC_r ?_
            refine loopQ_r ?_
            refine blockC_r ?_
            refine thenC_r ?_
            refine retQ.mk (H' := []) (.inr rfl) (RVs.tmp (by rfl) RVs.nil) (List.nil_sublist _) ?_
            exact ⟨congrArg iv (edE_at hn hs hlen hz (by omega) (hev.trans (evE1_12 (by assumption) (by omega) (by omega) (by omega) (by omega))) (by decide)).symm, rfl⟩
          have hb18p := of_decide_eq_false hb18
          refine RS.on (dj := 109) rfl (congrArg Value.bool hb18) ?_
          refine RS.q rfl (QO.fieldAddr fo134_2 (by rfl)) ?_
          refine RS.on (dj := 109) rfl (congrArg Value.bool hb18) ?_
          refine RS.q rfl (QO.load ty3 (by rfl) (by repeat (first | exact List.Mem.head _ | refine List.Mem.tail _ ?_)) (by rfl)) ?_
          refine RS.on (dj := 109) rfl (congrArg Value.bool hb18) ?_
          refine RS.q rfl (QO.gtr (by rfl) (by rfl)) ?_
          refine RS.on (dj := 95) rfl (congrArg Value.bool hb16) ?_
          refine RS.q rfl (QO.pickF (by rfl) hb18 (by rfl)) ?_
          refine RS.on (dj := 95) rfl (congrArg Value.bool hb16) ?_
          refine RS.q rfl (QO.move) ?_
          refine RS.split (dj := 114) (by rfl) (fun hb19 => ?_) (fun hb19 => ?_)
          · have hb19p := of_decide_eq_true hb19
            refine RS.off (dj := 114) rfl (.inl (congrArg Value.bool hb19)) (fun _ => rfl) rfl ?_
            refine RS.off (dj := 114) rfl (.inl (congrArg Value.bool hb19)) (fun _ => rfl) rfl ?_
            refine RS.on (dj := 95) rfl (congrArg Value.bool hb16) ?_
            refine RS.q rfl (QO.pickT (by rfl) hb19 (by rfl)) ?_
            refine RS.on (dj := 95) rfl (congrArg Value.bool hb16) ?_
            refine RS.q rfl (QO.move) ?_
            refine RS.off (dj := 118) rfl (.inl (congrArg Value.bool rfl)) (fun _ => rfl) rfl ?_
            refine RS.off (dj := 118) rfl (.inl (congrArg Value.bool rfl)) (fun _ => rfl) rfl ?_
            refine RS.off (dj := 118) rfl (.inl (congrArg Value.bool rfl)) (fun _ => rfl) rfl ?_
            refine RS.off (dj := 118) rfl (.inl (congrArg Value.bool rfl)) (fun _ => rfl) rfl ?_
            refine RS.on (dj := 95) rfl (congrArg Value.bool hb16) ?_
            refine RS.q rfl (QO.pickT (by rfl) rfl (by rfl)) ?_
            refine RS.q rfl (QO.pickT (by rfl) hb16 (by rfl)) ?_
            refine RS.q rfl (QO.assign) ?_
            refine RS.nil ?_
            refine thenC_n ?_
            refine CS.condT (by rfl) rfl ?_
            refine CS.seq ?_
            refine CS.region ?_
            refine RS.q rfl (QO.assign) ?_
            refine RS.nil ?_
            refine thenC_n ?_
            refine CS.ret ?_
            refine blockC_r ?_
            refine blockC_r ?_
            refine thenC_r ?_
            refine loopQ_r ?_
            refine blockC_r ?_
            refine thenC_r ?_
            refine retQ.mk (H' := []) (.inr rfl) (RVs.tmp (by rfl) RVs.nil) (List.nil_sublist _) ?_
            exact ⟨congrArg iv (edE_at hn hs hlen hz (by omega) (hev.trans (evE1_12 (by assumption) (by omega) (by omega) (by omega) (by omega))) (by decide)).symm, rfl⟩
          have hb19p := of_decide_eq_false hb19
          refine RS.on (dj := 114) rfl (congrArg Value.bool hb19) ?_
          refine RS.q rfl (QO.move) ?_
          refine RS.on (dj := 114) rfl (congrArg Value.bool hb19) ?_
          refine RS.q rfl (QO.eql (by rfl) (by rfl)) ?_
          refine RS.on (dj := 95) rfl (congrArg Value.bool hb16) ?_
          refine RS.q rfl (QO.pickF (by rfl) hb19 (by rfl)) ?_
          refine RS.on (dj := 95) rfl (congrArg Value.bool hb16) ?_
          refine RS.q rfl (QO.move) ?_
          refine RS.split (dj := 118) (by rfl) (fun hb20 => ?_) (fun hb20 => ?_)
          · have hb20p := eq_of_beq hb20
            refine RS.off (dj := 118) rfl (.inl (congrArg Value.bool hb20)) (fun _ => rfl) rfl ?_
            refine RS.off (dj := 118) rfl (.inl (congrArg Value.bool hb20)) (fun _ => rfl) rfl ?_
            refine RS.off (dj := 118) rfl (.inl (congrArg Value.bool hb20)) (fun _ => rfl) rfl ?_
            refine RS.off (dj := 118) rfl (.inl (congrArg Value.bool hb20)) (fun _ => rfl) rfl ?_
            refine RS.on (dj := 95) rfl (congrArg Value.bool hb16) ?_
            refine RS.q rfl (QO.pickT (by rfl) hb20 (by rfl)) ?_
            refine RS.q rfl (QO.pickT (by rfl) hb16 (by rfl)) ?_
            refine RS.q rfl (QO.assign) ?_
            refine RS.nil ?_
            refine thenC_n ?_
            refine CS.condT (by rfl) rfl ?_
            refine CS.seq ?_
            refine CS.region ?_
            refine RS.q rfl (QO.assign) ?_
            refine RS.nil ?_
            refine thenC_n ?_
            refine CS.ret ?_
            refine blockC_r ?_
            refine blockC_r ?_
            refine thenC_r ?_
            refine loopQ_r ?_
            refine blockC_r ?_
            refine thenC_r ?_
            refine retQ.mk (H' := []) (.inr rfl) (RVs.tmp (by rfl) RVs.nil) (List.nil_sublist _) ?_
            exact ⟨congrArg iv (edE_at hn hs hlen hz (by omega) (hev.trans (evE1_12 (by assumption) (by omega) (by omega) (by omega) (by omega))) (by decide)).symm, rfl⟩
          have hb20p := ne_of_beq_false hb20
          refine RS.on (dj := 118) rfl (congrArg Value.bool hb20) ?_
          refine RS.q rfl (QO.fieldAddr fo134_5 (by rfl)) ?_
          refine RS.on (dj := 118) rfl (congrArg Value.bool hb20) ?_
          refine RS.q rfl (QO.load ty3 (by rfl) (by repeat (first | exact List.Mem.head _ | refine List.Mem.tail _ ?_)) (by rfl)) ?_
          refine RS.on (dj := 118) rfl (congrArg Value.bool hb20) ?_
          refine RS.q rfl (QO.move) ?_
          refine RS.on (dj := 118) rfl (congrArg Value.bool hb20) ?_
          refine RS.q rfl (QO.neq (by rfl) (by rfl)) ?_
          refine RS.on (dj := 95) rfl (congrArg Value.bool hb16) ?_
          refine RS.q rfl (QO.pickF (by rfl) hb20 (by rfl)) ?_
          refine RS.q rfl (QO.pickT (by rfl) hb16 (by rfl)) ?_
          refine RS.q rfl (QO.assign) ?_
          refine RS.nil ?_
          refine thenC_n ?_
          refine CS.cond (by rfl) (fun hb21 => ?_) (fun hb21 => ?_)
          · have hb21p := bne_iff_ne.1 hb21
            refine CS.seq ?_
            refine CS.region ?_
            refine RS.q rfl (QO.assign) ?_
            refine RS.nil ?_
            refine thenC_n ?_
            refine CS.ret ?_
            refine blockC_r ?_
            refine blockC_r ?_
            refine thenC_r ?_
            refine loopQ_r ?_
            refine blockC_r ?_
            refine thenC_r ?_
            refine retQ.mk (H' := []) (.inr rfl) (RVs.tmp (by rfl) RVs.nil) (List.nil_sublist _) ?_
            exact ⟨congrArg iv (edE_at hn hs hlen hz (by omega) (hev.trans (evE1_12 (by assumption) (by omega) (by omega) (by omega) (by omega))) (by decide)).symm, rfl⟩
          have hb21p := of_bne_false hb21
          refine CS.skip ?_
          refine blockC_n ?_
          refine blockC_n ?_
          refine thenC_n ?_
          refine CS.region ?_
          refine RS.q rfl (QO.add (by rfl) (by rfl) (by omega) (by omega)) ?_
          refine RS.q rfl (QO.move) ?_
          refine RS.nil ?_
          refine loopQ_n (by intro t ht; repeat (first | with_reducible exact rfl | exact frame_puts ht (frame_mix ht) _ rfl | (refine frame_put rfl ht ?_) | (refine frame_puts ht ?_ _ rfl) | exact frame_mix ht | (refine frame_mix2 rfl ht ?_) | exact rfl)) ?_
          exact ⟨k + 1, ⟨by omega, firstE_go hz (hev.trans (evE1_0 (by assumption) (by omega) (by omega) (by omega) (by omega)))⟩, by omega, (by repeat (first | exact kn_nil | refine kn_cons (by rfl) ?_)), (by repeat (first | exact List.Sublist.refl _ | exact List.nil_sublist _ | refine List.Sublist.cons_cons _ ?_ | refine List.Sublist.cons _ ?_ | exact Sbp.refl | exact Sbp.nil | refine Sbp.cons (by repeat (first | exact Rem.head | apply Rem.tail)) ?_ | exact Sbp.app | refine Sbp.skip ?_))⟩
        have hb16p := ne_of_beq_false hb16
        refine RS.off (dj := 95) rfl (.inl (congrArg Value.bool hb16)) (fun _ => rfl) rfl ?_
        refine RS.off (dj := 95) rfl (.inl (congrArg Value.bool hb16)) (fun _ => rfl) rfl ?_
        refine RS.off (dj := 95) rfl (.inl (congrArg Value.bool hb16)) (fun _ => rfl) rfl ?_
        refine RS.off (dj := 95) rfl (.inl (congrArg Value.bool hb16)) (fun _ => rfl) rfl ?_
        refine RS.off (dj := 99) (c := true) rfl (.inr rfl) (fun h => by cases h) rfl ?_
        refine RS.off (dj := 99) (c := true) rfl (.inr rfl) (fun h => by cases h) rfl ?_
        refine RS.off (dj := 99) (c := true) rfl (.inr rfl) (fun h => by cases h) rfl ?_
        refine RS.off (dj := 99) (c := true) rfl (.inr rfl) (fun h => by cases h) rfl ?_
        refine RS.off (dj := 99) (c := true) rfl (.inr rfl) (fun h => by cases h) rfl ?_
        refine RS.off (dj := 99) (c := true) rfl (.inr rfl) (fun h => by cases h) rfl ?_
        refine RS.off (dj := 99) (c := true) rfl (.inr rfl) (fun h => by cases h) rfl ?_
        refine RS.off (dj := 99) (c := true) rfl (.inr rfl) (fun h => by cases h) rfl ?_
        refine RS.off (dj := 95) rfl (.inl (congrArg Value.bool hb16)) (fun _ => rfl) rfl ?_
        refine RS.off (dj := 95) rfl (.inl (congrArg Value.bool hb16)) (fun _ => rfl) rfl ?_
        refine RS.off (dj := 109) (c := true) rfl (.inr rfl) (fun h => by cases h) rfl ?_
        refine RS.off (dj := 109) (c := true) rfl (.inr rfl) (fun h => by cases h) rfl ?_
        refine RS.off (dj := 109) (c := true) rfl (.inr rfl) (fun h => by cases h) rfl ?_
        refine RS.off (dj := 95) rfl (.inl (congrArg Value.bool hb16)) (fun _ => rfl) rfl ?_
        refine RS.off (dj := 95) rfl (.inl (congrArg Value.bool hb16)) (fun _ => rfl) rfl ?_
        refine RS.off (dj := 114) (c := true) rfl (.inr rfl) (fun h => by cases h) rfl ?_
        refine RS.off (dj := 114) (c := true) rfl (.inr rfl) (fun h => by cases h) rfl ?_
        refine RS.off (dj := 95) rfl (.inl (congrArg Value.bool hb16)) (fun _ => rfl) rfl ?_
        refine RS.off (dj := 95) rfl (.inl (congrArg Value.bool hb16)) (fun _ => rfl) rfl ?_
        refine RS.off (dj := 118) (c := true) rfl (.inr rfl) (fun h => by cases h) rfl ?_
        refine RS.off (dj := 118) (c := true) rfl (.inr rfl) (fun h => by cases h) rfl ?_
        refine RS.off (dj := 118) (c := true) rfl (.inr rfl) (fun h => by cases h) rfl ?_
        refine RS.off (dj := 118) (c := true) rfl (.inr rfl) (fun h => by cases h) rfl ?_
        refine RS.off (dj := 95) rfl (.inl (congrArg Value.bool hb16)) (fun _ => rfl) rfl ?_
        refine RS.q rfl (QO.pickF (by rfl) hb16 (by rfl)) ?_
        refine RS.q rfl (QO.assign) ?_
        refine RS.nil ?_
        refine thenC_n ?_
        refine CS.condF (by rfl) rfl ?_
        refine CS.skip ?_
        refine blockC_n ?_
        refine blockC_n ?_
        refine thenC_n ?_
        refine CS.region ?_
        refine RS.q rfl (QO.add (by rfl) (by rfl) (by omega) (by omega)) ?_
        refine RS.q rfl (QO.move) ?_
        refine RS.nil ?_
        refine loopQ_n (by intro t ht; repeat (first | with_reducible exact rfl | exact frame_puts ht (frame_mix ht) _ rfl | (refine frame_put rfl ht ?_) | (refine frame_puts ht ?_ _ rfl) | exact frame_mix ht | (refine frame_mix2 rfl ht ?_) | exact rfl)) ?_
        exact ⟨k + 1, ⟨by omega, firstE_go hz (hev.trans (evE1_0 (by assumption) (by omega) (by omega) (by omega) (by omega)))⟩, by omega, (by repeat (first | exact kn_nil | refine kn_cons (by rfl) ?_)), (by repeat (first | exact List.Sublist.refl _ | exact List.nil_sublist _ | refine List.Sublist.cons_cons _ ?_ | refine List.Sublist.cons _ ?_ | exact Sbp.refl | exact Sbp.nil | refine Sbp.cons (by repeat (first | exact Rem.head | apply Rem.tail)) ?_ | exact Sbp.app | refine Sbp.skip ?_))⟩
      have hb14p := ne_of_beq_false hb14
      refine RS.off (dj := 87) rfl (.inl (congrArg Value.bool hb14)) (fun _ => rfl) rfl ?_
      refine RS.off (dj := 87) rfl (.inl (congrArg Value.bool hb14)) (fun _ => rfl) rfl ?_
      refine RS.off (dj := 87) rfl (.inl (congrArg Value.bool hb14)) (fun _ => rfl) rfl ?_
      refine RS.q rfl (QO.pickF (by rfl) hb14 (by rfl)) ?_
      refine RS.q rfl (QO.assign) ?_
      refine RS.nil ?_
      refine thenC_n ?_
      refine CS.condF (by rfl) rfl ?_
      refine CS.region ?_
      refine RS.q rfl (QO.fieldAddr fo134_1 (by rfl)) ?_
      refine RS.q rfl (QO.load ty3 (by rfl) (by repeat (first | exact List.Mem.head _ | refine List.Mem.tail _ ?_)) (by rfl)) ?_
      refine RS.q rfl (QO.eql (by rfl) (by rfl)) ?_
      refine RS.q rfl (QO.move) ?_
      refine RS.split (dj := 95) (by rfl) (fun hb22 => ?_) (fun hb22 => ?_)
      · have hb22p := eq_of_beq hb22
        refine RS.on (dj := 95) rfl (congrArg Value.bool hb22) ?_
        refine RS.q rfl (QO.fieldAddr fo134_2 (by rfl)) ?_
        refine RS.on (dj := 95) rfl (congrArg Value.bool hb22) ?_
        refine RS.q rfl (QO.load ty3 (by rfl) (by repeat (first | exact List.Mem.head _ | refine List.Mem.tail _ ?_)) (by rfl)) ?_
        refine RS.on (dj := 95) rfl (congrArg Value.bool hb22) ?_
        refine RS.q rfl (QO.lss (by rfl) (by rfl)) ?_
        refine RS.on (dj := 95) rfl (congrArg Value.bool hb22) ?_
        refine RS.q rfl (QO.move) ?_
        refine RS.split (dj := 99) (by rfl) (fun hb23 => ?_) (fun hb23 => ?_)
        · have hb23p := of_decide_eq_true hb23
          refine RS.off (dj := 99) rfl (.inl (congrArg Value.bool hb23)) (fun _ => rfl) rfl ?_
          refine RS.off (dj := 99) rfl (.inl (congrArg Value.bool hb23)) (fun _ => rfl) rfl ?_
          refine RS.off (dj := 99) rfl (.inl (congrArg Value.bool hb23)) (fun _ => rfl) rfl ?_
          refine RS.off (dj := 99) rfl (.inl (congrArg Value.bool hb23)) (fun _ => rfl) rfl ?_
          refine RS.off (dj := 99) rfl (.inl (congrArg Value.bool hb23)) (fun _ => rfl) rfl ?_
          refine RS.off (dj := 99) rfl (.inl (congrArg Value.bool hb23)) (fun _ => rfl) rfl ?_
          refine RS.off (dj := 99) rfl (.inl (congrArg Value.bool hb23)) (fun _ => rfl) rfl ?_
          refine RS.off (dj := 99) rfl (.inl (congrArg Value.bool hb23)) (fun _ => rfl) rfl ?_
          refine RS.on (dj := 95) rfl (congrArg Value.bool hb22) ?_
          refine RS.q rfl (QO.pickT (by rfl) hb23 (by rfl)) ?_
          refine RS.on (dj := 95) rfl (congrArg Value.bool hb22) ?_
          refine RS.q rfl (QO.move) ?_
          refine RS.off (dj := 109) rfl (.inl (congrArg Value.bool rfl)) (fun _ => rfl) rfl ?_
          refine RS.off (dj := 109) rfl (.inl (congrArg Value.bool rfl)) (fun _ => rfl) rfl ?_
          refine RS.off (dj := 109) rfl (.inl (congrArg Value.bool rfl)) (fun _ => rfl) rfl ?_
          refine RS.on (dj := 95) rfl (congrArg Value.bool hb22) ?_
          refine RS.q rfl (QO.pickT (by rfl) rfl (by rfl)) ?_
          refine RS.on (dj := 95) rfl (congrArg Value.bool hb22) ?_
          refine RS.q rfl (QO.move) ?_
          refine RS.off (dj := 114) rfl (.inl (congrArg Value.bool rfl)) (fun _ => rfl) rfl ?_
          refine RS.off (dj := 114) rfl (.inl (congrArg Value.bool rfl)) (fun _ => rfl) rfl ?_
          refine RS.on (dj := 95) rfl (congrArg Value.bool hb22) ?_
          refine RS.q rfl (QO.pickT (by rfl) rfl (by rfl)) ?_
          refine RS.on (dj := 95) rfl (congrArg Value.bool hb22) ?_
          refine RS.q rfl (QO.move) ?_
          refine RS.off (dj := 118) rfl (.inl (congrArg Value.bool rfl)) (fun _ => rfl) rfl ?_
          refine RS.off (dj := 118) rfl (.inl (congrArg Value.bool rfl)) (fun _ => rfl) rfl ?_
          refine RS.off (dj := 118) rfl (.inl (congrArg Value.bool rfl)) (fun _ => rfl) rfl ?_
          refine RS.off (dj := 118) rfl (.inl (congrArg Value.bool rfl)) (fun _ => rfl) rfl ?_
          refine RS.on (dj := 95) rfl (congrArg Value.bool hb22) ?_
          refine RS.q rfl (QO.pickT (by rfl) rfl (by rfl)) ?_
          refine RS.q rfl (QO.pickT (by rfl) hb22 (by rfl)) ?_
          refine RS.q rfl (QO.assign) ?_
          refine RS.nil ?_
          refine thenC_n ?_
          refine CS.condT (by rfl) rfl ?_
          refine CS.seq ?_
          refine CS.region ?_
          refine RS.q rfl (QO.assign) ?_
          refine RS.nil ?_
          refine thenC_n ?_
          refine CS.ret ?_
          refine blockC_r ?_
          refine blockC_r ?_
          refine thenC_r ?_
          refine loopQ_r ?_
          refine blockC_r ?_
          refine thenC_r ?_
          refine retQ.mk (H' := []) (.inr rfl) (RVs.tmp (by rfl) RVs.nil) (List.nil_sublist _) ?_
          exact ⟨congrArg iv (edE_at hn hs hlen hz (by omega) (hev.trans (evE1_12 (by assumption) (by omega) (by omega) (by omega) (by omega))) (by decide)).symm, rfl⟩
        have hb23p := of_decide_eq_false hb23
        refine RS.on (dj := 99) rfl (congrArg Value.bool hb23) ?_
        refine RS.q rfl (QO.fieldAddr fo134_2 (by rfl)) ?_
        refine RS.on (dj := 99) rfl (congrArg Value.bool hb23) ?_
        refine RS.q rfl (QO.load ty3 (by rfl) (by repeat (first | exact List.Mem.head _ | refine List.Mem.tail _ ?_)) (by rfl)) ?_
        refine RS.on (dj := 99) rfl (congrArg Value.bool hb23) ?_
        refine RS.q rfl (QO.fieldAddr fo134_4 (by rfl)) ?_
        refine RS.on (dj := 99) rfl (congrArg Value.bool hb23) ?_
        refine RS.q rfl (QO.load ty3 (by rfl) (by repeat (first | exact List.Mem.head _ | refine List.Mem.tail _ ?_)) (by rfl)) ?_
        refine RS.on (dj := 99) rfl (congrArg Value.bool hb23) ?_
        refine RS.q rfl (QO.fieldAddr fo134_3 (by rfl)) ?_
        refine RS.on (dj := 99) rfl (congrArg Value.bool hb23) ?_
        refine RS.q rfl (QO.load ty3 (by rfl) (by repeat (first | exact List.Mem.head _ | refine List.Mem.tail _ ?_)) (by rfl)) ?_
        refine RS.on (dj := 99) rfl (congrArg Value.bool hb23) ?_
        refine RS.q rfl (QO.sub (by rfl) (by rfl) (by omega) (by omega)) ?_
        refine RS.on (dj := 99) rfl (congrArg Value.bool hb23) ?_
        refine RS.q rfl (QO.gtr (by rfl) (by rfl)) ?_
        refine RS.on (dj := 95) rfl (congrArg Value.bool hb22) ?_
        refine RS.q rfl (QO.pickF (by rfl) hb23 (by rfl)) ?_
        refine RS.on (dj := 95) rfl (congrArg Value.bool hb22) ?_
        refine RS.q rfl (QO.move) ?_
        refine RS.split (dj := 109) (by rfl) (fun hb24 => ?_) (fun hb24 => ?_)
        · have hb24p := of_decide_eq_true hb24
          refine RS.off (dj := 109) rfl (.inl (congrArg Value.bool hb24)) (fun _ => rfl) rfl ?_
          refine RS.off (dj := 109) rfl (.inl (congrArg Value.bool hb24)) (fun _ => rfl) rfl ?_
          refine RS.off (dj := 109) rfl (.inl (congrArg Value.bool hb24)) (fun _ => rfl) rfl ?_
          refine RS.on (dj := 95) rfl (congrArg Value.bool hb22) ?_
          refine RS.q rfl (QO.pickT (by rfl) hb24 (by rfl)) ?_
          refine RS.on (dj := 95) rfl (congrArg Value.bool hb22) ?_
          refine RS.q rfl (QO.move) ?_
          refine RS.off (dj := 114) rfl (.inl (congrArg Value.bool rfl)) (fun _ => rfl) rfl ?_
          refine RS.off (dj := 114) rfl (.inl (congrArg Value.bool rfl)) (fun _ => rfl) rfl ?_
          refine RS.on (dj := 95) rfl (congrArg Value.bool hb22) ?_
          refine RS.q rfl (QO.pickT (by rfl) rfl (by rfl)) ?_
          refine RS.on (dj := 95) rfl (congrArg Value.bool hb22) ?_
          refine RS.q rfl (QO.move) ?_
          refine RS.off (dj := 118) rfl (.inl (congrArg Value.bool rfl)) (fun _ => rfl) rfl ?_
          refine RS.off (dj := 118) rfl (.inl (congrArg Value.bool rfl)) (fun _ => rfl) rfl ?_
          refine RS.off (dj := 118) rfl (.inl (congrArg Value.bool rfl)) (fun _ => rfl) rfl ?_
          refine RS.off (dj := 118) rfl (.inl (congrArg Value.bool rfl)) (fun _ => rfl) rfl ?_
          refine RS.on (dj := 95) rfl (congrArg Value.bool hb22) ?_
          refine RS.q rfl (QO.pickT (by rfl) rfl (by rfl)) ?_
          refine RS.q rfl (QO.pickT (by rfl) hb22 (by rfl)) ?_
          refine RS.q rfl (QO.assign) ?_
          refine RS.nil ?_
          refine thenC_n ?_
          refine CS.condT (by rfl) rfl ?_
          refine CS.seq ?_
          refine CS.region ?_
          refine RS.q rfl (QO.assign) ?_
          refine RS.nil ?_
          refine thenC_n ?_
          refine CS.ret ?_
          refine blockC_r ?_
          refine blockC_r ?_
          refine thenC_r ?_
          refine loopQ_r ?_
          refine blockC_r ?_
          refine thenC_r ?_
          refine retQ.mk (H' := []) (.inr rfl) (RVs.tmp (by rfl) RVs.nil) (List.nil_sublist _) ?_
          exact ⟨congrArg iv (edE_at hn hs hlen hz (by omega) (hev.trans (evE1_12 (by assumption) (by omega) (by omega) (by omega) (by omega))) (by decide)).symm, rfl⟩
        have hb24p := of_decide_eq_false hb24
        refine RS.on (dj := 109) rfl (congrArg Value.bool hb24) ?_
        refine RS.q rfl (QO.fieldAddr fo134_2 (by rfl)) ?_
        refine RS.on (dj := 109) rfl (congrArg Value.bool hb24) ?_
        refine RS.q rfl (QO.load ty3 (by rfl) (by repeat (first | exact List.Mem.head _ | refine List.Mem.tail _ ?_)) (by rfl)) ?_
        refine RS.on (dj := 109) rfl (congrArg Value.bool hb24) ?_
        refine RS.q rfl (QO.gtr (by rfl) (by rfl)) ?_
        refine RS.on (dj := 95) rfl (congrArg Value.bool hb22) ?_
        refine RS.q rfl (QO.pickF (by rfl) hb24 (by rfl)) ?_
        refine RS.on (dj := 95) rfl (congrArg Value.bool hb22) ?_
        refine RS.q rfl (QO.move) ?_
        refine RS.split (dj := 114) (by rfl) (fun hb25 => ?_) (fun hb25 => ?_)
        · have hb25p := of_decide_eq_true hb25
          refine RS.off (dj := 114) rfl (.inl (congrArg Value.bool hb25)) (fun _ => rfl) rfl ?_
          refine RS.off (dj := 114) rfl (.inl (congrArg Value.bool hb25)) (fun _ => rfl) rfl ?_
          refine RS.on (dj := 95) rfl (congrArg Value.bool hb22) ?_
          refine RS.q rfl (QO.pickT (by rfl) hb25 (by rfl)) ?_
          refine RS.on (dj := 95) rfl (congrArg Value.bool hb22) ?_
          refine RS.q rfl (QO.move) ?_
          refine RS.off (dj := 118) rfl (.inl (congrArg Value.bool rfl)) (fun _ => rfl) rfl ?_
          refine RS.off (dj := 118) rfl (.inl (congrArg Value.bool rfl)) (fun _ => rfl) rfl ?_
          refine RS.off (dj := 118) rfl (.inl (congrArg Value.bool rfl)) (fun _ => rfl) rfl ?_
          refine RS.off (dj := 118) rfl (.inl (congrArg Value.bool rfl)) (fun _ => rfl) rfl ?_
          refine RS.on (dj := 95) rfl (congrArg Value.bool hb22) ?_
          refine RS.q rfl (QO.pickT (by rfl) rfl (by rfl)) ?_
          refine RS.q rfl (QO.pickT (by rfl) hb22 (by rfl)) ?_
          refine RS.q rfl (QO.assign) ?_
          refine RS.nil ?_
          refine thenC_n ?_
          refine CS.condT (by rfl) rfl ?_
          refine CS.seq ?_
          refine CS.region ?_
          refine RS.q rfl (QO.assign) ?_
          refine RS.nil ?_
          refine thenC_n ?_
          refine CS.ret ?_
          refine blockC_r ?_
          refine blockC_r ?_
          refine thenC_r ?_
          refine loopQ_r ?_
          refine blockC_r ?_
          refine thenC_r ?_
          refine retQ.mk (H' := []) (.inr rfl) (RVs.tmp (by rfl) RVs.nil) (List.nil_sublist _) ?_
          exact ⟨congrArg iv (edE_at hn hs hlen hz (by omega) (hev.trans (evE1_12 (by assumption) (by omega) (by omega) (by omega) (by omega))) (by decide)).symm, rfl⟩
        have hb25p := of_decide_eq_false hb25
        refine RS.on (dj := 114) rfl (congrArg Value.bool hb25) ?_
        refine RS.q rfl (QO.move) ?_
        refine RS.on (dj := 114) rfl (congrArg Value.bool hb25) ?_
        refine RS.q rfl (QO.eql (by rfl) (by rfl)) ?_
        refine RS.on (dj := 95) rfl (congrArg Value.bool hb22) ?_
        refine RS.q rfl (QO.pickF (by rfl) hb25 (by rfl)) ?_
        refine RS.on (dj := 95) rfl (congrArg Value.bool hb22) ?_
        refine RS.q rfl (QO.move) ?_
        refine RS.split (dj := 118) (by rfl) (fun hb26 => ?_) (fun hb26 => ?_)
        · have hb26p := eq_of_beq hb26
          refine RS.off (dj := 118) rfl (.inl (congrArg Value.bool hb26)) (fun _ => rfl) rfl ?_
          refine RS.off (dj := 118) rfl (.inl (congrArg Value.bool hb26)) (fun _ => rfl) rfl ?_
          refine RS.off (dj := 118) rfl (.inl (congrArg Value.bool hb26)) (fun _ => rfl) rfl ?_
          refine RS.off (dj := 118) rfl (.inl (congrArg Value.bool hb26)) (fun _ => rfl) rfl ?_
          refine RS.on (dj := 95) rfl (congrArg Value.bool hb22) ?_
          refine RS.q rfl (QO.pickT (by rfl) hb26 (by rfl)) ?_
          refine RS.q rfl (QO.pickT (by rfl) hb22 (by rfl)) ?_
          refine RS.q rfl (QO.assign) ?_
          refine RS.nil ?_
          refine thenC_n ?_
          refine CS.condT (by rfl) rfl ?_
          refine CS.seq ?_
          refine CS.region ?_
          refine RS.q rfl (QO.assign) ?_
          refine RS.nil ?_
          refine thenC_n ?_
          refine CS.ret ?_
          refine blockC_r ?_
          refine blockC_r ?_
          refine thenC_r ?_
          refine loopQ_r ?_
          refine blockC_r ?_
          refine thenC_r ?_
          refine retQ.mk (H' := []) (.inr rfl) (RVs.tmp (by rfl) RVs.nil) (List.nil_sublist _) ?_
          exact ⟨congrArg iv (edE_at hn hs hlen hz (by omega) (hev.trans (evE1_12 (by assumption) (by omega) (by omega) (by omega) (by omega))) (by decide)).symm, rfl⟩
        have hb26p := ne_of_beq_false hb26
        refine RS.on (dj := 118) rfl (congrArg Value.bool hb26) ?_
        refine RS.q rfl (QO.fieldAddr fo134_5 (by rfl)) ?_
        refine RS.on (dj := 118) rfl (congrArg Value.bool hb26) ?_
        refine RS.q rfl (QO.load ty3 (by rfl) (by repeat (first | exact List.Mem.head _ | refine List.Mem.tail _ ?_)) (by rfl)) ?_
        refine RS.on (dj := 118) rfl (congrArg Value.bool hb26) ?_
        refine RS.q rfl (QO.move) ?_
        refine RS.on (dj := 118) rfl (congrArg Value.bool hb26) ?_
        refine RS.q rfl (QO.neq (by rfl) (by rfl)) ?_
        refine RS.on (dj := 95) rfl (congrArg Value.bool hb22) ?_
        refine RS.q rfl (QO.pickF (by rfl) hb26 (by rfl)) ?_
        refine RS.q rfl (QO.pickT (by rfl) hb22 (by rfl)) ?_
        refine RS.q rfl (QO.assign) ?_
        refine RS.nil ?_
        refine thenC_n ?_
        refine CS.cond (by rfl) (fun hb27 => ?_) (fun hb27 => ?_)
        · have hb27p := bne_iff_ne.1 hb27
          refine CS.seq ?_
          refine CS.region ?_
          refine RS.q rfl (QO.assign) ?_
          refine RS.nil ?_
          refine thenC_n ?_
          refine CS.ret ?_
          refine blockC_r ?_
          refine blockC_r ?_
          refine thenC_r ?_
          refine loopQ_r ?_
          refine blockC_r ?_
          refine thenC_r ?_
          refine retQ.mk (H' := []) (.inr rfl) (RVs.tmp (by rfl) RVs.nil) (List.nil_sublist _) ?_
          exact ⟨congrArg iv (edE_at hn hs hlen hz (by omega) (hev.trans (evE1_12 (by assumption) (by omega) (by omega) (by omega) (by omega))) (by decide)).symm, rfl⟩
        have hb27p := of_bne_false hb27
        refine CS.skip ?_
        refine blockC_n ?_
        refine blockC_n ?_
        refine thenC_n ?_
        refine CS.region ?_
        refine RS.q rfl (QO.add (by rfl) (by rfl) (by omega) (by omega)) ?_
        refine RS.q rfl (QO.move) ?_
        refine RS.nil ?_
        refine loopQ_n (by intro t ht; repeat (first | with_reducible exact rfl | exact frame_puts ht (frame_mix ht) _ rfl | (refine frame_put rfl ht ?_) | (refine frame_puts ht ?_ _ rfl) | exact frame_mix ht | (refine frame_mix2 rfl ht ?_) | exact rfl)) ?_
        exact ⟨k + 1, ⟨by omega, firstE_go hz (hev.trans (evE1_0 (by assumption) (by omega) (by omega) (by omega) (by omega)))⟩, by omega, (by repeat (first | exact kn_nil | refine kn_cons (by rfl) ?_)), (by repeat (first | exact List.Sublist.refl _ | exact List.nil_sublist _ | refine List.Sublist.cons_cons _ ?_ | refine List.Sublist.cons _ ?_ | exact Sbp.refl | exact Sbp.nil | refine Sbp.cons (by repeat (first | exact Rem.head | apply Rem.tail)) ?_ | exact Sbp.app | refine Sbp.skip ?_))⟩
      have hb22p := ne_of_beq_false hb22
      refine RS.off (dj := 95) rfl (.inl (congrArg Value.bool hb22)) (fun _ => rfl) rfl ?_
      refine RS.off (dj := 95) rfl (.inl (congrArg Value.bool hb22)) (fun _ => rfl) rfl ?_
      refine RS.off (dj := 95) rfl (.inl (congrArg Value.bool hb22)) (fun _ => rfl) rfl ?_
      refine RS.off (dj := 95) rfl (.inl (congrArg Value.bool hb22)) (fun _ => rfl) rfl ?_
      refine RS.off (dj := 99) (c := true) rfl (.inr rfl) (fun h => by cases h) rfl ?_
      refine RS.off (dj := 99) (c := true) rfl (.inr rfl) (fun h => by cases h) rfl ?_
      refine RS.off (dj := 99) (c := true) rfl (.inr rfl) (fun h => by cases h) rfl ?_
      refine RS.off (dj := 99) (c := true) rfl (.inr rfl) (fun h => by cases h) rfl ?_
      refine RS.off (dj := 99) (c := true) rfl (.inr rfl) (fun h => by cases h) rfl ?_
      refine RS.off (dj := 99) (c := true) rfl (.inr rfl) (fun h => by cases h) rfl ?_
      refine RS.off (dj := 99) (c := true) rfl (.inr rfl) (fun h => by cases h) rfl ?_
      refine RS.off (dj := 99) (c := true) rfl (.inr rfl) (fun h => by cases h) rfl ?_
      refine RS.off (dj := 95) rfl (.inl (congrArg Value.bool hb22)) (fun _ => rfl) rfl ?_
      refine RS.off (dj := 95) rfl (.inl (congrArg Value.bool hb22)) (fun _ => rfl) rfl ?_
      refine RS.off (dj := 109) (c := true) rfl (.inr rfl) (fun h => by cases h) rfl ?_
      refine RS.off (dj := 109) (c := true) rfl (.inr rfl) (fun h => by cases h) rfl ?_
      refine RS.off (dj := 109) (c := true) rfl (.inr rfl) (fun h => by cases h) rfl ?_
      refine RS.off (dj := 95) rfl (.inl (congrArg Value.bool hb22)) (fun _ => rfl) rfl ?_
      refine RS.off (dj := 95) rfl (.inl (congrArg Value.bool hb22)) (fun _ => rfl) rfl ?_
      refine RS.off (dj := 114) (c := true) rfl (.inr rfl) (fun h => by cases h) rfl ?_
      refine RS.off (dj := 114) (c := true) rfl (.inr rfl) (fun h => by cases h) rfl ?_
      refine RS.off (dj := 95) rfl (.inl (congrArg Value.bool hb22)) (fun _ => rfl) rfl ?_
      refine RS.off (dj := 95) rfl (.inl (congrArg Value.bool hb22)) (fun _ => rfl) rfl ?_
      refine RS.off (dj := 118) (c := true) rfl (.inr rfl) (fun h => by cases h) rfl ?_
      refine RS.off (dj := 118) (c := true) rfl (.inr rfl) (fun h => by cases h) rfl ?_
      refine RS.off (dj := 118) (c := true) rfl (.inr rfl) (fun h => by cases h) rfl ?_
      refine RS.off (dj := 118) (c := true) rfl (.inr rfl) (fun h => by cases h) rfl ?_
      refine RS.off (dj := 95) rfl (.inl (congrArg Value.bool hb22)) (fun _ => rfl) rfl ?_
      refine RS.q rfl (QO.pickF (by rfl) hb22 (by rfl)) ?_
      refine RS.q rfl (QO.assign) ?_
      refine RS.nil ?_
      refine thenC_n ?_
      refine CS.condF (by rfl) rfl ?_
      refine CS.skip ?_
      refine blockC_n ?_
      refine blockC_n ?_
      refine thenC_n ?_
      refine CS.region ?_
      refine RS.q rfl (QO.add (by rfl) (by rfl) (by omega) (by omega)) ?_
      refine RS.q rfl (QO.move) ?_
      refine RS.nil ?_
      refine loopQ_n (by intro t ht; repeat (first | with_reducible exact rfl | exact frame_puts ht (frame_mix ht) _ rfl | (refine frame_put rfl ht ?_) | (refine frame_puts ht ?_ _ rfl) | exact frame_mix ht | (refine frame_mix2 rfl ht ?_) | exact rfl)) ?_
      exact ⟨k + 1, ⟨by omega, firstE_go hz (hev.trans (evE1_0 (by assumption) (by omega) (by omega) (by omega) (by omega)))⟩, by omega, (by repeat (first | exact kn_nil | refine kn_cons (by rfl) ?_)), (by repeat (first | exact List.Sublist.refl _ | exact List.nil_sublist _ | refine List.Sublist.cons_cons _ ?_ | refine List.Sublist.cons _ ?_ | exact Sbp.refl | exact Sbp.nil | refine Sbp.cons (by repeat (first | exact Rem.head | apply Rem.tail)) ?_ | exact Sbp.app | refine Sbp.skip ?_))⟩
    have hb6p := of_bne_false hb6
    refine RS.off (dj := 47) rfl (.inl (congrArg Value.bool hb6)) (fun _ => rfl) rfl ?_
    refine RS.off (dj := 47) rfl (.inl (congrArg Value.bool hb6)) (fun _ => rfl) rfl ?_
    refine RS.off (dj := 47) rfl (.inl (congrArg Value.bool hb6)) (fun _ => rfl) rfl ?_
    refine RS.q rfl (QO.pickF (by rfl) hb6 (by rfl)) ?_
    refine RS.q rfl (QO.assign) ?_
    refine RS.nil ?_
    refine thenC_n ?_
    refine CS.condF (by rfl) rfl ?_
    refine CS.seq ?_
    refine CS.region ?_
    refine RS.q rfl (QO.fieldAddr fo134_3 (by rfl)) ?_
    refine RS.q rfl (QO.load ty3 (by rfl) (by repeat (first | exact List.Mem.head _ | refine List.Mem.tail _ ?_)) (by rfl)) ?_
    refine RS.q rfl (QO.lss (by rfl) (by rfl)) ?_
    refine RS.q rfl (QO.move) ?_
    refine RS.split (dj := 56) (by rfl) (fun hb28 => ?_) (fun hb28 => ?_)
    · have hb28p := of_decide_eq_true hb28
      refine RS.off (dj := 56) rfl (.inl (congrArg Value.bool hb28)) (fun _ => rfl) rfl ?_
      refine RS.off (dj := 56) rfl (.inl (congrArg Value.bool hb28)) (fun _ => rfl) rfl ?_
      refine RS.off (dj := 56) rfl (.inl (congrArg Value.bool hb28)) (fun _ => rfl) rfl ?_
      refine RS.off (dj := 56) rfl (.inl (congrArg Value.bool hb28)) (fun _ => rfl) rfl ?_
      refine RS.off (dj := 56) rfl (.inl (congrArg Value.bool hb28)) (fun _ => rfl) rfl ?_
      refine RS.q rfl (QO.pickT (by rfl) hb28 (by rfl)) ?_
      refine RS.q rfl (QO.move) ?_
      refine RS.off (dj := 63) rfl (.inl (congrArg Value.bool rfl)) (fun _ => rfl) rfl ?_
      refine RS.off (dj := 63) rfl (.inl (congrArg Value.bool rfl)) (fun _ => rfl) rfl ?_
      refine RS.off (dj := 63) rfl (.inl (congrArg Value.bool rfl)) (fun _ => rfl) rfl ?_
      refine RS.q rfl (QO.pickT (by rfl) rfl (by rfl)) ?_
      refine RS.q rfl (QO.move) ?_
      refine RS.off (dj := 68) rfl (.inl (congrArg Value.bool rfl)) (fun _ => rfl) rfl ?_
      refine RS.off (dj := 68) rfl (.inl (congrArg Value.bool rfl)) (fun _ => rfl) rfl ?_
      refine RS.off (dj := 68) rfl (.inl (congrArg Value.bool rfl)) (fun _ => rfl) rfl ?_
      refine RS.q rfl (QO.pickT (by rfl) rfl (by rfl)) ?_
      refine RS.q rfl (QO.move) ?_
      refine RS.off (dj := 73) rfl (.inl (congrArg Value.bool rfl)) (fun _ => rfl) rfl ?_
      refine RS.off (dj := 73) rfl (.inl (congrArg Value.bool rfl)) (fun _ => rfl) rfl ?_
      refine RS.off (dj := 73) rfl (.inl (congrArg Value.bool rfl)) (fun _ => rfl) rfl ?_
      refine RS.q rfl (QO.pickT (by rfl) rfl (by rfl)) ?_
      refine RS.q rfl (QO.assign) ?_
      refine RS.nil ?_
      refine thenC_n ?_
      refine CS.condT (by rfl) rfl ?_
      refine CS.seq ?_
      refine CS.region ?_
      refine RS.q rfl (QO.assign) ?_
      refine RS.nil ?_
      refine thenC_n ?_
      refine CS.ret ?_
      refine blockC_r ?_
      refine blockC_r ?_
      refine thenC_r ?_
      refine loopQ_r ?_
      refine blockC_r ?_
      refine thenC_r ?_
      refine retQ.mk (H' := []) (.inr rfl) (RVs.tmp (by rfl) RVs.nil) (List.nil_sublist _) ?_
      exact ⟨congrArg iv (edE_at hn hs hlen hz (by omega) (hev.trans (evE1_3 (by assumption) (by omega) (by omega))) (by decide)).symm, rfl⟩
    have hb28p := of_decide_eq_false hb28
    refine RS.on (dj := 56) rfl (congrArg Value.bool hb28) ?_
    refine RS.q rfl (QO.fieldAddr fo134_4 (by rfl)) ?_
    refine RS.on (dj := 56) rfl (congrArg Value.bool hb28) ?_
    refine RS.q rfl (QO.load ty3 (by rfl) (by repeat (first | exact List.Mem.head _ | refine List.Mem.tail _ ?_)) (by rfl)) ?_
    refine RS.on (dj := 56) rfl (congrArg Value.bool hb28) ?_
    refine RS.q rfl (QO.fieldAddr fo134_3 (by rfl)) ?_
    refine RS.on (dj := 56) rfl (congrArg Value.bool hb28) ?_
    refine RS.q rfl (QO.load ty3 (by rfl) (by repeat (first | exact List.Mem.head _ | refine List.Mem.tail _ ?_)) (by rfl)) ?_
    refine RS.on (dj := 56) rfl (congrArg Value.bool hb28) ?_
    refine RS.q rfl (QO.leq (by rfl) (by rfl)) ?_
    refine RS.q rfl (QO.pickF (by rfl) hb28 (by rfl)) ?_
    refine RS.q rfl (QO.move) ?_
    refine RS.split (dj := 63) (by rfl) (fun hb29 => ?_) (fun hb29 => ?_)
    · have hb29p := of_decide_eq_true hb29
      refine RS.off (dj := 63) rfl (.inl (congrArg Value.bool hb29)) (fun _ => rfl) rfl ?_
      refine RS.off (dj := 63) rfl (.inl (congrArg Value.bool hb29)) (fun _ => rfl) rfl ?_
      refine RS.off (dj := 63) rfl (.inl (congrArg Value.bool hb29)) (fun _ => rfl) rfl ?_
      refine RS.q rfl (QO.pickT (by rfl) hb29 (by rfl)) ?_
      refine RS.q rfl (QO.move) ?_
      refine RS.off (dj := 68) rfl (.inl (congrArg Value.bool rfl)) (fun _ => rfl) rfl ?_
      refine RS.off (dj := 68) rfl (.inl (congrArg Value.bool rfl)) (fun _ => rfl) rfl ?_
      refine RS.off (dj := 68) rfl (.inl (congrArg Value.bool rfl)) (fun _ => rfl) rfl ?_
      refine RS.q rfl (QO.pickT (by rfl) rfl (by rfl)) ?_
      refine RS.q rfl (QO.move) ?_
      refine RS.off (dj := 73) rfl (.inl (congrArg Value.bool rfl)) (fun _ => rfl) rfl ?_
      refine RS.off (dj := 73) rfl (.inl (congrArg Value.bool rfl)) (fun _ => rfl) rfl ?_
      refine RS.off (dj := 73) rfl (.inl (congrArg Value.bool rfl)) (fun _ => rfl) rfl ?_
      refine RS.q rfl (QO.pickT (by rfl) rfl (by rfl)) ?_
      refine RS.q rfl (QO.assign) ?_
      refine RS.nil ?_
      refine thenC_n ?_
      refine CS.condT (by rfl) rfl ?_
      refine CS.seq ?_
      refine CS.region ?_
      refine RS.q rfl (QO.assign) ?_
      refine RS.nil ?_
      refine thenC_n ?_
      refine CS.ret ?_
      refine blockC_r ?_
      refine blockC_r ?_
      refine thenC_r ?_
      refine loopQ_r ?_
      refine blockC_r ?_
      refine thenC_r ?_
      refine retQ.mk (H' := []) (.inr rfl) (RVs.tmp (by rfl) RVs.nil) (List.nil_sublist _) ?_
      exact ⟨congrArg iv (edE_at hn hs hlen hz (by omega) (hev.trans (evE1_3 (by assumption) (by omega) (by omega))) (by decide)).symm, rfl⟩
    have hb29p := of_decide_eq_false hb29
    refine RS.on (dj := 63) rfl (congrArg Value.bool hb29) ?_
    refine RS.q rfl (QO.fieldAddr fo134_4 (by rfl)) ?_
    refine RS.on (dj := 63) rfl (congrArg Value.bool hb29) ?_
    refine RS.q rfl (QO.load ty3 (by rfl) (by repeat (first | exact List.Mem.head _ | refine List.Mem.tail _ ?_)) (by rfl)) ?_
    refine RS.on (dj := 63) rfl (congrArg Value.bool hb29) ?_
    refine RS.q rfl (QO.gtr (by rfl) (by rfl)) ?_
    refine RS.q rfl (QO.pickF (by rfl) hb29 (by rfl)) ?_
    refine RS.q rfl (QO.move) ?_
    refine RS.split (dj := 68) (by rfl) (fun hb30 => ?_) (fun hb30 => ?_)
    · have hb30p := of_decide_eq_true hb30
      refine RS.off (dj := 68) rfl (.inl (congrArg Value.bool hb30)) (fun _ => rfl) rfl ?_
      refine RS.off (dj := 68) rfl (.inl (congrArg Value.bool hb30)) (fun _ => rfl) rfl ?_
      refine RS.off (dj := 68) rfl (.inl (congrArg Value.bool hb30)) (fun _ => rfl) rfl ?_
      refine RS.q rfl (QO.pickT (by rfl) hb30 (by rfl)) ?_
      refine RS.q rfl (QO.move) ?_
      refine RS.off (dj := 73) rfl (.inl (congrArg Value.bool rfl)) (fun _ => rfl) rfl ?_
      refine RS.off (dj := 73) rfl (.inl (congrArg Value.bool rfl)) (fun _ => rfl) rfl ?_
      refine RS.off (dj := 73) rfl (.inl (congrArg Value.bool rfl)) (fun _ => rfl) rfl ?_
      refine RS.q rfl (QO.pickT (by rfl) rfl (by rfl)) ?_
      refine RS.q rfl (QO.assign) ?_
      refine RS.nil ?_
      refine thenC_n ?_
      refine CS.condT (by rfl) rfl ?_
      refine CS.seq ?_
      refine CS.region ?_
      refine RS.q rfl (QO.assign) ?_
      refine RS.nil ?_
      refine thenC_n ?_
      refine CS.ret ?_
      refine blockC_r ?_
      refine blockC_r ?_
      refine thenC_r ?_
      refine loopQ_r ?_
      refine blockC_r ?_
      refine thenC_r ?_
      refine retQ.mk (H' := []) (.inr rfl) (RVs.tmp (by rfl) RVs.nil) (List.nil_sublist _) ?_
      exact ⟨congrArg iv (edE_at hn hs hlen hz (by omega) (hev.trans (evE1_3 (by assumption) (by omega) (by omega))) (by decide)).symm, rfl⟩
    have hb30p := of_decide_eq_false hb30
    refine RS.on (dj := 68) rfl (congrArg Value.bool hb30) ?_
    refine RS.q rfl (QO.fieldAddr fo134_5 (by rfl)) ?_
    refine RS.on (dj := 68) rfl (congrArg Value.bool hb30) ?_
    refine RS.q rfl (QO.load ty3 (by rfl) (by repeat (first | exact List.Mem.head _ | refine List.Mem.tail _ ?_)) (by rfl)) ?_
    refine RS.on (dj := 68) rfl (congrArg Value.bool hb30) ?_
    refine RS.q rfl (QO.gtr (by rfl) (by rfl)) ?_
    refine RS.q rfl (QO.pickF (by rfl) hb30 (by rfl)) ?_
    refine RS.q rfl (QO.move) ?_
    refine RS.split (dj := 73) (by rfl) (fun hb31 => ?_) (fun hb31 => ?_)
    · have hb31p := of_decide_eq_true hb31
      refine RS.off (dj := 73) rfl (.inl (congrArg Value.bool hb31)) (fun _ => rfl) rfl ?_
      refine RS.off (dj := 73) rfl (.inl (congrArg Value.bool hb31)) (fun _ => rfl) rfl ?_
      refine RS.off (dj := 73) rfl (.inl (congrArg Value.bool hb31)) (fun _ => rfl) rfl ?_
      refine RS.q rfl (QO.pickT (by rfl) hb31 (by rfl)) ?_
      refine RS.q rfl (QO.assign) ?_
      refine RS.nil ?_
      refine thenC_n ?_
      refine CS.condT (by rfl) rfl ?_
      refine CS.seq ?_
      refine CS.region ?_
      refine RS.q rfl (QO.assign) ?_
      refine RS.nil ?_
      refine thenC_n ?_
      refine CS.ret ?_
      refine blockC_r ?_
      refine blockC_r ?_
      refine thenC_r ?_
      refine loopQ_r ?_
      refine blockC_r ?_
      refine thenC_r ?_
      refine retQ.mk (H' := []) (.inr rfl) (RVs.tmp (by rfl) RVs.nil) (List.nil_sublist _) ?_
      exact ⟨congrArg iv (edE_at hn hs hlen hz (by omega) (hev.trans (evE1_3 (by assumption) (by omega) (by omega))) (by decide)).symm, rfl⟩
    have hb31p := of_decide_eq_false hb31
    refine RS.on (dj := 73) rfl (congrArg Value.bool hb31) ?_
    refine RS.q rfl (QO.fieldAddr fo134_5 (by rfl)) ?_
    refine RS.on (dj := 73) rfl (congrArg Value.bool hb31) ?_
    refine RS.q rfl (QO.load ty3 (by rfl) (by repeat (first | exact List.Mem.head _ | refine List.Mem.tail _ ?_)) (by rfl)) ?_
    refine RS.on (dj := 73) rfl (congrArg Value.bool hb31) ?_
    refine RS.q rfl (QO.lss (by rfl) (by rfl)) ?_
    refine RS.q rfl (QO.pickF (by rfl) hb31 (by rfl)) ?_
    refine RS.q rfl (QO.assign) ?_
    refine RS.nil ?_
    refine thenC_n ?_
    refine CS.cond (by rfl) (fun hb32 => ?_) (fun hb32 => ?_)
    · have hb32p := of_decide_eq_true hb32
      refine CS.seq ?_
      refine CS.region ?_
      refine RS.q rfl (QO.assign) ?_
      refine RS.nil ?_
      refine thenC_n ?_
      refine CS.ret ?_
      refine blockC_r ?_
      refine blockC_r ?_
      refine thenC_r ?_
      refine loopQ_r ?_
      refine blockC_r ?_
      refine thenC_r ?_
      refine retQ.mk (H' := []) (.inr rfl) (RVs.tmp (by rfl) RVs.nil) (List.nil_sublist _) ?_
      exact ⟨congrArg iv (edE_at hn hs hlen hz (by omega) (hev.trans (evE1_3 (by assumption) (by omega) (by omega))) (by decide)).symm, rfl⟩
    have hb32p := of_decide_eq_false hb32
    refine CS.seq ?_
    refine CS.region ?_
    refine RS.q rfl (QO.fieldAddr fo134_5 (by rfl)) ?_
    refine RS.q rfl (QO.load ty3 (by rfl) (by repeat (first | exact List.Mem.head _ | refine List.Mem.tail _ ?_)) (by rfl)) ?_
    refine RS.q rfl (QO.move) ?_
    refine RS.q rfl (QO.lss (by rfl) (by rfl)) ?_
    refine RS.q rfl (QO.assign) ?_
    refine RS.nil ?_
    refine thenC_n ?_
    refine CS.cond (by rfl) (fun hb33 => ?_) (fun hb33 => ?_)
    · have hb33p := of_decide_eq_true hb33
      refine CS.seq ?_
      refine CS.region ?_
      refine RS.q rfl (QO.assign) ?_
      refine RS.nil ?_
      refine thenC_n ?_
      refine CS.ret ?_
      refine blockC_r ?_
      refine blockC_r ?_
      refine thenC_r ?_
      refine loopQ_r ?_
      refine blockC_r ?_
      refine thenC_r ?_
      refine retQ.mk (H' := []) (.inr rfl) (RVs.tmp (by rfl) RVs.nil) (List.nil_sublist _) ?_
      exact ⟨congrArg iv (edE_at hn hs hlen hz (by omega) (hev.trans (evE1_8 (by assumption) (by omega) (by omega) (by omega))) (by decide)).symm, rfl⟩
    have hb33p := of_decide_eq_false hb33
    refine CS.seq ?_
    refine CS.seq ?_
    refine CS.region ?_
    refine RS.q rfl (QO.fieldAddr fo134_1 (by rfl)) ?_
    refine RS.q rfl (QO.load ty3 (by rfl) (by repeat (first | exact List.Mem.head _ | refine List.Mem.tail _ ?_)) (by rfl)) ?_
    refine RS.q rfl (QO.eql (by rfl) (by rfl)) ?_
    refine RS.q rfl (QO.move) ?_
    refine RS.split (dj := 87) (by rfl) (fun hb34 => ?_) (fun hb34 => ?_)
    · have hb34p := eq_of_beq hb34
      refine RS.on (dj := 87) rfl (congrArg Value.bool hb34) ?_
      refine RS.q rfl (QO.fieldAddr fo134_2 (by rfl)) ?_
      refine RS.on (dj := 87) rfl (congrArg Value.bool hb34) ?_
      refine RS.q rfl (QO.load ty3 (by rfl) (by repeat (first | exact List.Mem.head _ | refine List.Mem.tail _ ?_)) (by rfl)) ?_
      refine RS.on (dj := 87) rfl (congrArg Value.bool hb34) ?_
      refine RS.q rfl (QO.neq (by rfl) (by rfl)) ?_
      refine RS.q rfl (QO.pickT (by rfl) hb34 (by rfl)) ?_
      refine RS.q rfl (QO.assign) ?_
      refine RS.nil ?_
      refine thenC_n ?_
      refine CS.cond (by rfl) (fun hb35 => ?_) (fun hb35 => ?_)
      · have hb35p := bne_iff_ne.1 hb35
        refine CS.skip ?_
        refine thenC_n ?_
        refine CS.condT (by rfl) hb35 ?_
        refine CS.seq ?_
        refine CS.region ?_
        refine RS.q rfl (QO.assign) ?_
        refine RS.nil ?_
        refine thenC_n ?_
        refine CS.ret ?_
        refine blockC_r ?_
        refine blockC_r ?_
        refine thenC_r ?_
        refine loopQ_r ?_
        refine blockC_r ?_
        refine thenC_r ?_
        refine retQ.mk (H' := []) (.inr rfl) (RVs.tmp (by rfl) RVs.nil) (List.nil_sublist _) ?_
        exact ⟨congrArg iv (edE_at hn hs hlen hz (by omega) (hev.trans (evE1_12 (by assumption) (by omega) (by omega) (by omega) (by omega))) (by decide)).symm, rfl⟩
      have hb35p := of_bne_false hb35
      refine CS.region ?_
      refine RS.q rfl (QO.fieldAddr fo134_1 (by rfl)) ?_
      refine RS.q rfl (QO.load ty3 (by rfl) (by repeat (first | exact List.Mem.head _ | refine List.Mem.tail _ ?_)) (by rfl)) ?_
      refine RS.q rfl (QO.eql (by rfl) (by rfl)) ?_
      refine RS.q rfl (QO.move) ?_
      refine RS.split (dj := 95) (by rfl) (fun hb36 => ?_) (fun hb36 => ?_)
      · have hb36p := eq_of_beq hb36
        refine RS.on (dj := 95) rfl (congrArg Value.bool hb36) ?_
        refine RS.q rfl (QO.fieldAddr fo134_2 (by rfl)) ?_
        refine RS.on (dj := 95) rfl (congrArg Value.bool hb36) ?_
        refine RS.q rfl (QO.load ty3 (by rfl) (by repeat (first | exact List.Mem.head _ | refine List.Mem.tail _ ?_)) (by rfl)) ?_
        refine RS.on (dj := 95) rfl (congrArg Value.bool hb36) ?_
        refine RS.q rfl (QO.lss (by rfl) (by rfl)) ?_
        refine RS.on (dj := 95) rfl (congrArg Value.bool hb36) ?_
        refine RS.q rfl (QO.move) ?_
        refine RS.split (dj := 99) (by rfl) (fun hb37 => ?_) (fun hb37 => ?_)
        · have hb37p := of_decide_eq_true hb37
          refine RS.off (dj := 99) rfl (.inl (congrArg Value.bool hb37)) (fun _ => rfl) rfl ?_
          refine RS.off (dj := 99) rfl (.inl (congrArg Value.bool hb37)) (fun _ => rfl) rfl ?_
          refine RS.off (dj := 99) rfl (.inl (congrArg Value.bool hb37)) (fun _ => rfl) rfl ?_
          refine RS.off (dj := 99) rfl (.inl (congrArg Value.bool hb37)) (fun _ => rfl) rfl ?_
          refine RS.off (dj := 99) rfl (.inl (congrArg Value.bool hb37)) (fun _ => rfl) rfl ?_
          refine RS.off (dj := 99) rfl (.inl (congrArg Value.bool hb37)) (fun _ => rfl) rfl ?_
          refine RS.off (dj := 99) rfl (.inl (congrArg Value.bool hb37)) (fun _ => rfl) rfl ?_
          refine RS.off (dj := 99) rfl (.inl (congrArg Value.bool hb37)) (fun _ => rfl) rfl ?_
          refine RS.on (dj := 95) rfl (congrArg Value.bool hb36) ?_
          refine RS.q rfl (QO.pickT (by rfl) hb37 (by rfl)) ?_
          refine RS.on (dj := 95) rfl (congrArg Value.bool hb36) ?_
          refine RS.q rfl (QO.move) ?_
          refine RS.off (dj := 109) rfl (.inl (congrArg Value.bool rfl)) (fun _ => rfl) rfl ?_
          refine RS.off (dj := 109) rfl (.inl (congrArg Value.bool rfl)) (fun _ => rfl) rfl ?_
          refine RS.off (dj := 109) rfl (.inl (congrArg Value.bool rfl)) (fun _ => rfl) rfl ?_
          refine RS.on (dj := 95) rfl (congrArg Value.bool hb36) ?_
          refine RS.q rfl (QO.pickT (by rfl) rfl (by rfl)) ?_
          refine RS.on (dj := 95) rfl (congrArg Value.bool hb36) ?_
          refine RS.q rfl (QO.move) ?_
          refine RS.off (dj := 114) rfl (.inl (congrArg Value.bool rfl)) (fun _ => rfl) rfl ?_
          refine RS.off (dj := 114) rfl (.inl (congrArg Value.bool rfl)) (fun _ => rfl) rfl ?_
          refine RS.on (dj := 95) rfl (congrArg Value.bool hb36) ?_
          refine RS.q rfl (QO.pickT (by rfl) rfl (by rfl)) ?_
          refine RS.on (dj := 95) rfl (congrArg Value.bool hb36) ?_
          refine RS.q rfl (QO.move) ?_
          refine RS.off (dj := 118) rfl (.inl (congrArg Value.bool rfl)) (fun _ => rfl) rfl ?_
          refine RS.off (dj := 118) rfl (.inl (congrArg Value.bool rfl)) (fun _ => rfl) rfl ?_
          refine RS.off (dj := 118) rfl (.inl (congrArg Value.bool rfl)) (fun _ => rfl) rfl ?_
          refine RS.off (dj := 118) rfl (.inl (congrArg Value.bool rfl)) (fun _ => rfl) rfl ?_
          refine RS.on (dj := 95) rfl (congrArg Value.bool hb36) ?_
          refine RS.q rfl (QO.pickT (by rfl) rfl (by rfl)) ?_
          refine RS.q rfl (QO.pickT (by rfl) hb36 (by rfl)) ?_
          refine RS.q rfl (QO.assign) ?_
          refine RS.nil ?_
          refine thenC_n ?_
          refine CS.condT (by rfl) rfl ?_
          refine CS.seq ?_
          refine CS.region ?_
          refine RS.q rfl (QO.assign) ?_
          refine RS.nil ?_
          refine thenC_n ?_
          refine CS.ret ?_
          refine blockC_r ?_
          refine blockC_r ?_
          refine thenC_r ?_
          refine loopQ_r ?_
          refine blockC_r ?_
          refine thenC_r ?_
          refine retQ.mk (H' := []) (.inr rfl) (RVs.tmp (by rfl) RVs.nil) (List.nil_sublist _) ?_
          exact ⟨congrArg iv (edE_at hn hs hlen hz (by omega) (hev.trans (evE1_12 (by assumption) (by omega) (by omega) (by omega) (by omega))) (by decide)).symm, rfl⟩
        have hb37p := of_decide_eq_false hb37
        refine RS.on (dj := 99) rfl (congrArg Value.bool hb37) ?_
        refine RS.q rfl (QO.fieldAddr fo134_2 (by rfl)) ?_
        refine RS.on (dj := 99) rfl (congrArg Value.bool hb37) ?_
        refine RS.q rfl (QO.load ty3 (by rfl) (by repeat (first | exact List.Mem.head _ | refine List.Mem.tail _ ?_)) (by rfl)) ?_
        refine RS.on (dj := 99) rfl (congrArg Value.bool hb37) ?_
        refine RS.q rfl (QO.fieldAddr fo134_4 (by rfl)) ?_
        refine RS.on (dj := 99) rfl (congrArg Value.bool hb37) ?_
        refine RS.q rfl (QO.load ty3 (by rfl) (by repeat (first | exact List.Mem.head _ | refine List.Mem.tail _ ?_)) (by rfl)) ?_
        refine RS.on (dj := 99) rfl (congrArg Value.bool hb37) ?_
        refine RS.q rfl (QO.fieldAddr fo134_3 (by rfl)) ?_
        refine RS.on (dj := 99) rfl (congrArg Value.bool hb37) ?_
        refine RS.q rfl (QO.load ty3 (by rfl) (by repeat (first | exact List.Mem.head _ | refine List.Mem.tail _ ?_)) (by rfl)) ?_
        refine RS.on (dj := 99) rfl (congrArg Value.bool hb37) ?_
        refine RS.q rfl (QO.sub (by rfl) (by rfl) (by omega) (by omega)) ?_
        refine RS.on (dj := 99) rfl (congrArg Value.bool hb37) ?_
        refine RS.q rfl (QO.gtr (by rfl) (by rfl)) ?_
        refine RS.on (dj := 95) rfl (congrArg Value.bool hb36) ?_
        refine RS.q rfl (QO.pickF (by rfl) hb37 (by rfl)) ?_
        refine RS.on (dj := 95) rfl (congrArg Value.bool hb36) ?_
        refine RS.q rfl (QO.move) ?_
        refine RS.split (dj := 109) (by rfl) (fun hb38 => ?_) (fun hb38 => ?_)
        · have hb38p := of_decide_eq_true hb38
          refine RS.off (dj := 109) rfl (.inl (congrArg Value.bool hb38)) (fun _ => rfl) rfl ?_
          refine RS.off (dj := 109) rfl (.inl (congrArg Value.bool hb38)) (fun _ => rfl) rfl ?_
          refine RS.off (dj := 109) rfl (.inl (congrArg Value.bool hb38)) (fun _ => rfl) rfl ?_
          refine RS.on (dj := 95) rfl (congrArg Value.bool hb36) ?_
          refine RS.q rfl (QO.pickT (by rfl) hb38 (by rfl)) ?_
          refine RS.on (dj := 95) rfl (congrArg Value.bool hb36) ?_
          refine RS.q rfl (QO.move) ?_
          refine RS.off (dj := 114) rfl (.inl (congrArg Value.bool rfl)) (fun _ => rfl) rfl ?_
          refine RS.off (dj := 114) rfl (.inl (congrArg Value.bool rfl)) (fun _ => rfl) rfl ?_
          refine RS.on (dj := 95) rfl (congrArg Value.bool hb36) ?_
          refine RS.q rfl (QO.pickT (by rfl) rfl (by rfl)) ?_
          refine RS.on (dj := 95) rfl (congrArg Value.bool hb36) ?_
          refine RS.q rfl (QO.move) ?_
          refine RS.off (dj := 118) rfl (.inl (congrArg Value.bool rfl)) (fun _ => rfl) rfl ?_
          refine RS.off (dj := 118) rfl (.inl (congrArg Value.bool rfl)) (fun _ => rfl) rfl ?_
          refine RS.off (dj := 118) rfl (.inl (congrArg Value.bool rfl)) (fun _ => rfl) rfl ?_
          refine RS.off (dj := 118) rfl (.inl (congrArg Value.bool rfl)) (fun _ => rfl) rfl ?_
          refine RS.on (dj := 95) rfl (congrArg Value.bool hb36) ?_
          refine RS.q rfl (QO.pickT (by rfl) rfl (by rfl)) ?_
          refine RS.q rfl (QO.pickT (by rfl) hb36 (by rfl)) ?_
          refine RS.q rfl (QO.assign) ?_
          refine RS.nil ?_
          refine thenC_n ?_
          refine CS.condT (by rfl) rfl ?_
          refine CS.seq ?_
          refine CS.region ?_
          refine RS.q rfl (QO.assign) ?_
          refine RS.nil ?_
          refine thenC_n ?_
          refine CS.ret ?_
          refine blockC_r ?_
          refine blockC_r ?_
          refine thenC_r ?_
          refine loopQ_r ?_
          refine blockC_r ?_
          refine thenC_r ?_
          refine retQ.mk (H' := []) (.inr rfl) (RVs.tmp (by rfl) RVs.nil) (List.nil_sublist _) ?_
          exact ⟨congrArg iv (edE_at hn hs hlen hz (by omega) (hev.trans (evE1_12 (by assumption) (by omega) (by omega) (by omega) (by omega))) (by decide)).symm, rfl⟩
        have hb38p := of_decide_eq_false hb38
        refine RS.on (dj := 109) rfl (congrArg Value.bool hb38) ?_
        refine RS.q rfl (QO.fieldAddr fo134_2 (by rfl)) ?_
        refine RS.on (dj := 109) rfl (congrArg Value.bool hb38) ?_
        refine RS.q rfl (QO.load ty3 (by rfl) (by repeat (first | exact List.Mem.head _ | refine List.Mem.tail _ ?_)) (by rfl)) ?_
        refine RS.on (dj := 109) rfl (congrArg Value.bool hb38) ?_
        refine RS.q rfl (QO.gtr (by rfl) (by rfl)) ?_
        refine RS.on (dj := 95) rfl (congrArg Value.bool hb36) ?_
        refine RS.q rfl (QO.pickF (by rfl) hb38 (by rfl)) ?_
        refine RS.on (dj := 95) rfl (congrArg Value.bool hb36) ?_
        refine RS.q rfl (QO.move) ?_
        refine RS.split (dj := 114) (by rfl) (fun hb39 => ?_) (fun hb39 => ?_)
        · have hb39p := of_decide_eq_true hb39
          refine RS.off (dj := 114) rfl (.inl (congrArg Value.bool hb39)) (fun _ => rfl) rfl ?_
          refine RS.off (dj := 114) rfl (.inl (congrArg Value.bool hb39)) (fun _ => rfl) rfl ?_
          refine RS.on (dj := 95) rfl (congrArg Value.bool hb36) ?_
          refine RS.q rfl (QO.pickT (by rfl) hb39 (by rfl)) ?_
          refine RS.on (dj := 95) rfl (congrArg Value.bool hb36) ?_
          refine RS.q rfl (QO.move) ?_
          refine RS.off (dj := 118) rfl (.inl (congrArg Value.bool rfl)) (fun _ => rfl) rfl ?_
          refine RS.off (dj := 118) rfl (.inl (congrArg Value.bool rfl)) (fun _ => rfl) rfl ?_
          refine RS.off (dj := 118) rfl (.inl (congrArg Value.bool rfl)) (fun _ => rfl) rfl ?_
          refine RS.off (dj := 118) rfl (.inl (congrArg Value.bool rfl)) (fun _ => rfl) rfl ?_
          refine RS.on (dj := 95) rfl (congrArg Value.bool hb36) ?_
          refine RS.q rfl (QO.pickT (by rfl) rfl (by rfl)) ?_
          refine RS.q rfl (QO.pickT (by rfl) hb36 (by rfl)) ?_
          refine RS.q rfl (QO.assign) ?_
          refine RS.nil ?_
          refine thenC_n ?_
          refine CS.condT (by rfl) rfl ?_
          refine CS.seq ?_
          refine CS.region ?_
          refine RS.q rfl (QO.assign) ?_
          refine RS.nil ?_
          refine thenC_n ?_
          refine CS.ret ?_
          refine blockC_r ?_
          refine blockC_r ?_
          refine thenC_r ?_
          refine loopQ_r ?_
          refine blockC_r ?_
          refine thenC_r ?_
          refine retQ.mk (H' := []) (.inr rfl) (RVs.tmp (by rfl) RVs.nil) (List.nil_sublist _) ?_
          exact ⟨congrArg iv (edE_at hn hs hlen hz (by omega) (hev.trans (evE1_12 (by assumption) (by omega) (by omega) (by omega) (by omega))) (by decide)).symm, rfl⟩
        have hb39p := of_decide_eq_false hb39
        refine RS.on (dj := 114) rfl (congrArg Value.bool hb39) ?_
        refine RS.q rfl (QO.move) ?_
        refine RS.on (dj := 114) rfl (congrArg Value.bool hb39) ?_
        refine RS.q rfl (QO.eql (by rfl) (by rfl)) ?_
        refine RS.on (dj := 95) rfl (congrArg Value.bool hb36) ?_
        refine RS.q rfl (QO.pickF (by rfl) hb39 (by rfl)) ?_
        refine RS.on (dj := 95) rfl (congrArg Value.bool hb36) ?_
        refine RS.q rfl (QO.move) ?_
        refine RS.split (dj := 118) (by rfl) (fun hb40 => ?_) (fun hb40 => ?_)
        · have hb40p := eq_of_beq hb40
          refine RS.off (dj := 118) rfl (.inl (congrArg Value.bool hb40)) (fun _ => rfl) rfl ?_
          refine RS.off (dj := 118) rfl (.inl (congrArg Value.bool hb40)) (fun _ => rfl) rfl ?_
          refine RS.off (dj := 118) rfl (.inl (congrArg Value.bool hb40)) (fun _ => rfl) rfl ?_
          refine RS.off (dj := 118) rfl (.inl (congrArg Value.bool hb40)) (fun _ => rfl) rfl ?_
          refine RS.on (dj := 95) rfl (congrArg Value.bool hb36) ?_
          refine RS.q rfl (QO.pickT (by rfl) hb40 (by rfl)) ?_
          refine RS.q rfl (QO.pickT (by rfl) hb36 (by rfl)) ?_
          refine RS.q rfl (QO.assign) ?_
          refine RS.nil ?_
          refine thenC_n ?_
          refine CS.condT (by rfl) rfl ?_
          refine CS.seq ?_
          refine CS.region ?_
          refine RS.q rfl (QO.assign) ?_
          refine RS.nil ?_
          refine thenC_n ?_
          refine CS.ret ?_
          refine blockC_r ?_
          refine blockC_r ?_
          refine thenC_r ?_
          refine loopQ_r ?_
          refine blockC_r ?_
          refine thenC_r ?_
          refine retQ.mk (H' := []) (.inr rfl) (RVs.tmp (by rfl) RVs.nil) (List.nil_sublist _) ?_
          exact ⟨congrArg iv (edE_at hn hs hlen hz (by omega) (hev.trans (evE1_12 (by assumption) (by omega) (by omega) (by omega) (by omega))) (by decide)).symm, rfl⟩
        have hb40p := ne_of_beq_false hb40
        refine RS.on (dj := 118) rfl (congrArg Value.bool hb40) ?_
        refine RS.q rfl (QO.fieldAddr fo134_5 (by rfl)) ?_
        refine RS.on (dj := 118) rfl (congrArg Value.bool hb40) ?_
        refine RS.q rfl (QO.load ty3 (by rfl) (by repeat (first | exact List.Mem.head _ | refine List.Mem.tail _ ?_)) (by rfl)) ?_
        refine RS.on (dj := 118) rfl (congrArg Value.bool hb40) ?_
        refine RS.q rfl (QO.move) ?_
        refine RS.on (dj := 118) rfl (congrArg Value.bool hb40) ?_
        refine RS.q rfl (QO.neq (by rfl) (by rfl)) ?_
        refine RS.on (dj := 95) rfl (congrArg Value.bool hb36) ?_
        refine RS.q rfl (QO.pickF (by rfl) hb40 (by rfl)) ?_
        refine RS.q rfl (QO.pickT (by rfl) hb36 (by rfl)) ?_
        refine RS.q rfl (QO.assign) ?_
        refine RS.nil ?_
        refine thenC_n ?_
        refine CS.cond (by rfl) (fun hb41 => ?_) (fun hb41 => ?_)
        · have hb41p := bne_iff_ne.1 hb41
          refine CS.seq ?_
          refine CS.region ?_
          refine RS.q rfl (QO.assign) ?_
          refine RS.nil ?_
          refine thenC_n ?_
          refine CS.ret ?_
          refine blockC_r ?_
          refine blockC_r ?_
          refine thenC_r ?_
          refine loopQ_r ?_
          refine blockC_r ?_
          refine thenC_r ?_
          refine retQ.mk (H' := []) (.inr rfl) (RVs.tmp (by rfl) RVs.nil) (List.nil_sublist _) ?_
          exact ⟨congrArg iv (edE_at hn hs hlen hz (by omega) (hev.trans (evE1_12 (by assumption) (by omega) (by omega) (by omega) (by omega))) (by decide)).symm, rfl⟩
        have hb41p := of_bne_false hb41
        refine CS.skip ?_
        refine blockC_n ?_
        refine blockC_n ?_
        refine thenC_n ?_
        refine CS.region ?_
        refine RS.q rfl (QO.add (by rfl) (by rfl) (by omega) (by omega)) ?_
        refine RS.q rfl (QO.move) ?_
        refine RS.nil ?_
        refine loopQ_n (by intro t ht; repeat (first | with_reducible exact rfl | exact frame_puts ht (frame_mix ht) _ rfl | (refine frame_put rfl ht ?_) | (refine frame_puts ht ?_ _ rfl) | exact frame_mix ht | (refine frame_mix2 rfl ht ?_) | exact rfl)) ?_
        exact ⟨k + 1, ⟨by omega, firstE_go hz (hev.trans (evE1_0 (by assumption) (by omega) (by omega) (by omega) (by omega)))⟩, by omega, (by repeat (first | exact kn_nil | refine kn_cons (by rfl) ?_)), (by repeat (first | exact List.Sublist.refl _ | exact List.nil_sublist _ | refine List.Sublist.cons_cons _ ?_ | refine List.Sublist.cons _ ?_ | exact Sbp.refl | exact Sbp.nil | refine Sbp.cons (by repeat (first | exact Rem.head | apply Rem.tail)) ?_ | exact Sbp.app | refine Sbp.skip ?_))⟩
      have hb36p := ne_of_beq_false hb36
      refine RS.off (dj := 95) rfl (.inl (congrArg Value.bool hb36)) (fun _ => rfl) rfl ?_
      refine RS.off (dj := 95) rfl (.inl (congrArg Value.bool hb36)) (fun _ => rfl) rfl ?_
      refine RS.off (dj := 95) rfl (.inl (congrArg Value.bool hb36)) (fun _ => rfl) rfl ?_
      refine RS.off (dj := 95) rfl (.inl (congrArg Value.bool hb36)) (fun _ => rfl) rfl ?_
      refine RS.off (dj := 99) (c := true) rfl (.inr rfl) (fun h => by cases h) rfl ?_
      refine RS.off (dj := 99) (c := true) rfl (.inr rfl) (fun h => by cases h) rfl ?_
      refine RS.off (dj := 99) (c := true) rfl (.inr rfl) (fun h => by cases h) rfl ?_
      refine RS.off (dj := 99) (c := true) rfl (.inr rfl) (fun h => by cases h) rfl ?_
      refine RS.off (dj := 99) (c := true) rfl (.inr rfl) (fun h => by cases h) rfl ?_
      refine RS.off (dj := 99) (c := true) rfl (.inr rfl) (fun h => by cases h) rfl ?_
      refine RS.off (dj := 99) (c := true) rfl (.inr rfl) (fun h => by cases h) rfl ?_
      refine RS.off (dj := 99) (c := true) rfl (.inr rfl) (fun h => by cases h) rfl ?_
      refine RS.off (dj := 95) rfl (.inl (congrArg Value.bool hb36)) (fun _ => rfl) rfl ?_
      refine RS.off (dj := 95) rfl (.inl (congrArg Value.bool hb36)) (fun _ => rfl) rfl ?_
      refine RS.off (dj := 109) (c := true) rfl (.inr rfl) (fun h => by cases h) rfl ?_
      refine RS.off (dj := 109) (c := true) rfl (.inr rfl) (fun h => by cases h) rfl ?_
      refine RS.off (dj := 109) (c := true) rfl (.inr rfl) (fun h => by cases h) rfl ?_
      refine RS.off (dj := 95) rfl (.inl (congrArg Value.bool hb36)) (fun _ => rfl) rfl ?_
      refine RS.off (dj := 95) rfl (.inl (congrArg Value.bool hb36)) (fun _ => rfl) rfl ?_
      refine RS.off (dj := 114) (c := true) rfl (.inr rfl) (fun h => by cases h) rfl ?_
      refine RS.off (dj := 114) (c := true) rfl (.inr rfl) (fun h => by cases h) rfl ?_
      refine RS.off (dj := 95) rfl (.inl (congrArg Value.bool hb36)) (fun _ => rfl) rfl ?_
      refine RS.off (dj := 95) rfl (.inl (congrArg Value.bool hb36)) (fun _ => rfl) rfl ?_
      refine RS.off (dj := 118) (c := true) rfl (.inr rfl) (fun h => by cases h) rfl ?_
      refine RS.off (dj := 118) (c := true) rfl (.inr rfl) (fun h => by cases h) rfl ?_
      refine RS.off (dj := 118) (c := true) rfl (.inr rfl) (fun h => by cases h) rfl ?_
      refine RS.off (dj := 118) (c := true) rfl (.inr rfl) (fun h => by cases h) rfl ?_
      refine RS.off (dj := 95) rfl (.inl (congrArg Value.bool hb36)) (fun _ => rfl) rfl ?_
      refine RS.q rfl (QO.pickF (by rfl) hb36 (by rfl)) ?_
      refine RS.q rfl (QO.assign) ?_
      refine RS.nil ?_
      refine thenC_n ?_
      refine CS.condF (by rfl) rfl ?_
      refine CS.skip ?_
      refine blockC_n ?_
      refine blockC_n ?_
      refine thenC_n ?_
      refine CS.region ?_
      refine RS.q rfl (QO.add (by rfl) (by rfl) (by omega) (by omega)) ?_
      refine RS.q rfl (QO.move) ?_
      refine RS.nil ?_
      refine loopQ_n (by intro t ht; repeat (first | with_reducible exact rfl | exact frame_puts ht (frame_mix ht) _ rfl | (refine frame_put rfl ht ?_) | (refine frame_puts ht ?_ _ rfl) | exact frame_mix ht | (refine frame_mix2 rfl ht ?_) | exact rfl)) ?_
      exact ⟨k + 1, ⟨by omega, firstE_go hz (hev.trans (evE1_0 (by assumption) (by omega) (by omega) (by omega) (by omega)))⟩, by omega, (by repeat (first | exact kn_nil | refine kn_cons (by rfl) ?_)), (by repeat (first | exact List.Sublist.refl _ | exact List.nil_sublist _ | refine List.Sublist.cons_cons _ ?_ | refine List.Sublist.cons _ ?_ | exact Sbp.refl | exact Sbp.nil | refine Sbp.cons (by repeat (first | exact Rem.head | apply Rem.tail)) ?_ | exact Sbp.app | refine Sbp.skip ?_))⟩
    have hb34p := ne_of_beq_false hb34
    refine RS.off (dj := 87) rfl (.inl (congrArg Value.bool hb34)) (fun _ => rfl) rfl ?_
    refine RS.off (dj := 87) rfl (.inl (congrArg Value.bool hb34)) (fun _ => rfl) rfl ?_
    refine RS.off (dj := 87) rfl (.inl (congrArg Value.bool hb34)) (fun _ => rfl) rfl ?_
    refine RS.q rfl (QO.pickF (by rfl) hb34 (by rfl)) ?_
    refine RS.q rfl (QO.assign) ?_
    refine RS.nil ?_
    refine thenC_n ?_
    refine CS.condF (by rfl) rfl ?_
    refine CS.region ?_
    refine RS.q rfl (QO.fieldAddr fo134_1 (by rfl)) ?_
    refine RS.q rfl (QO.load ty3 (by rfl) (by repeat (first | exact List.Mem.head _ | refine List.Mem.tail _ ?_)) (by rfl)) ?_
    refine RS.q rfl (QO.eql (by rfl) (by rfl)) ?_
    refine RS.q rfl (QO.move) ?_
    refine RS.split (dj := 95) (by rfl) (fun hb42 => ?_) (fun hb42 => ?_)
    · have hb42p := eq_of_beq hb42
      refine RS.on (dj := 95) rfl (congrArg Value.bool hb42) ?_
      refine RS.q rfl (QO.fieldAddr fo134_2 (by rfl)) ?_
      refine RS.on (dj := 95) rfl (congrArg Value.bool hb42) ?_
      refine RS.q rfl (QO.load ty3 (by rfl) (by repeat (first | exact List.Mem.head _ | refine List.Mem.tail _ ?_)) (by rfl)) ?_
      refine RS.on (dj := 95) rfl (congrArg Value.bool hb42) ?_
      refine RS.q rfl (QO.lss (by rfl) (by rfl)) ?_
      refine RS.on (dj := 95) rfl (congrArg Value.bool hb42) ?_
      refine RS.q rfl (QO.move) ?_
      refine RS.split (dj := 99) (by rfl) (fun hb43 => ?_) (fun hb43 => ?_)
      · have hb43p := of_decide_eq_true hb43
        refine RS.off (dj := 99) rfl (.inl (congrArg Value.bool hb43)) (fun _ => rfl) rfl ?_
        refine RS.off (dj := 99) rfl (.inl (congrArg Value.bool hb43)) (fun _ => rfl) rfl ?_
        refine RS.off (dj := 99) rfl (.inl (congrArg Value.bool hb43)) (fun _ => rfl) rfl ?_
        refine RS.off (dj := 99) rfl (.inl (congrArg Value.bool hb43)) (fun _ => rfl) rfl ?_
        refine RS.off (dj := 99) rfl (.inl (congrArg Value.bool hb43)) (fun _ => rfl) rfl ?_
        refine RS.off (dj := 99) rfl (.inl (congrArg Value.bool hb43)) (fun _ => rfl) rfl ?_
        refine RS.off (dj := 99) rfl (.inl (congrArg Value.bool hb43)) (fun _ => rfl) rfl ?_
        refine RS.off (dj := 99) rfl (.inl (congrArg Value.bool hb43)) (fun _ => rfl) rfl ?_
        refine RS.on (dj := 95) rfl (congrArg Value.bool hb42) ?_
        refine RS.q rfl (QO.pickT (by rfl) hb43 (by rfl)) ?_
        refine RS.on (dj := 95) rfl (congrArg Value.bool hb42) ?_
        refine RS.q rfl (QO.move) ?_
        refine RS.off (dj := 109) rfl (.inl (congrArg Value.bool rfl)) (fun _ => rfl) rfl ?_
        refine RS.off (dj := 109) rfl (.inl (congrArg Value.bool rfl)) (fun _ => rfl) rfl ?_
        refine RS.off (dj := 109) rfl (.inl (congrArg Value.bool rfl)) (fun _ => rfl) rfl ?_
        refine RS.on (dj := 95) rfl (congrArg Value.bool hb42) ?_
        refine RS.q rfl (QO.pickT (by rfl) rfl (by rfl)) ?_
        refine RS.on (dj := 95) rfl (congrArg Value.bool hb42) ?_
        refine RS.q rfl (QO.move) ?_
        refine RS.off (dj := 114) rfl (.inl (congrArg Value.bool rfl)) (fun _ => rfl) rfl ?_
        refine RS.off (dj := 114) rfl (.inl (congrArg Value.bool rfl)) (fun _ => rfl) rfl ?_
        refine RS.on (dj := 95) rfl (congrArg Value.bool hb42) ?_
        refine RS.q rfl (QO.pickT (by rfl) rfl (by rfl)) ?_
        refine RS.on (dj := 95) rfl (congrArg Value.bool hb42) ?_
        refine RS.q rfl (QO.move) ?_
        refine RS.off (dj := 118) rfl (.inl (congrArg Value.bool rfl)) (fun _ => rfl) rfl ?_
        refine RS.off (dj := 118) rfl (.inl (congrArg Value.bool rfl)) (fun _ => rfl) rfl ?_
        refine RS.off (dj := 118) rfl (.inl (congrArg Value.bool rfl)) (fun _ => rfl) rfl ?_
        refine RS.off (dj := 118) rfl (.inl (congrArg Value.bool rfl)) (fun _ => rfl) rfl ?_
        refine RS.on (dj := 95) rfl (congrArg Value.bool hb42) ?_
        refine RS.q rfl (QO.pickT (by rfl) rfl (by rfl)) ?_
        refine RS.q rfl (QO.pickT (by rfl) hb42 (by rfl)) ?_
        refine RS.q rfl (QO.assign) ?_
        refine RS.nil ?_
        refine thenC_n ?_
        refine CS.condT (by rfl) rfl ?_
        refine CS.seq ?_
        refine CS.region ?_
        refine RS.q rfl (QO.assign) ?_
        refine RS.nil ?_
        refine thenC_n ?_
        refine CS.ret ?_
        refine blockC_r ?_
        refine blockC_r ?_
        refine thenC_r ?_
        refine loopQ_r ?_
        refine blockC_r ?_
        refine thenC_r ?_
        refine retQ.mk (H' := []) (.inr rfl) (RVs.tmp (by rfl) RVs.nil) (List.nil_sublist _) ?_
        exact ⟨congrArg iv (edE_at hn hs hlen hz (by omega) (hev.trans (evE1_12 (by assumption) (by omega) (by omega) (by omega) (by omega))) (by decide)).symm, rfl⟩
      have hb43p := of_decide_eq_false hb43
      refine RS.on (dj := 99) rfl (congrArg Value.bool hb43) ?_
      refine RS.q rfl (QO.fieldAddr fo134_2 (by rfl)) ?_
      refine RS.on (dj := 99) rfl (congrArg Value.bool hb43) ?_
      refine RS.q rfl (QO.load ty3 (by rfl) (by repeat (first | exact List.Mem.head _ | refine List.Mem.tail _ ?_)) (by rfl)) ?_
      refine RS.on (dj := 99) rfl (congrArg Value.bool hb43) ?_
      refine RS.q rfl (QO.fieldAddr fo134_4 (by rfl)) ?_
      refine RS.on (dj := 99) rfl (congrArg Value.bool hb43) ?_
      refine RS.q rfl (QO.load ty3 (by rfl) (by repeat (first | exact List.Mem.head _ | refine List.Mem.tail _ ?_)) (by rfl)) ?_
      refine RS.on (dj := 99) rfl (congrArg Value.bool hb43) ?_
      refine RS.q rfl (QO.fieldAddr fo134_3 (by rfl)) ?_
      refine RS.on (dj := 99) rfl (congrArg Value.bool hb43) ?_
      refine RS.q rfl (QO.load ty3 (by rfl) (by repeat (first | exact List.Mem.head _ | refine List.Mem.tail _ ?_)) (by rfl)) ?_
      refine RS.on (dj := 99) rfl (congrArg Value.bool hb43) ?_
      refine RS.q rfl (QO.sub (by rfl) (by rfl) (by omega) (by omega)) ?_
      refine RS.on (dj := 99) rfl (congrArg Value.bool hb43) ?_
      refine RS.q rfl (QO.gtr (by rfl) (by rfl)) ?_
      refine RS.on (dj := 95) rfl (congrArg Value.bool hb42) ?_
      refine RS.q rfl (QO.pickF (by rfl) hb43 (by rfl)) ?_
      refine RS.on (dj := 95) rfl (congrArg Value.bool hb42) ?_
      refine RS.q rfl (QO.move) ?_
      refine RS.split (dj := 109) (by rfl) (fun hb44 => ?_) (fun hb44 => ?_)
      · have hb44p := of_decide_eq_true hb44
        refine RS.off (dj := 109) rfl (.inl (congrArg Value.bool hb44)) (fun _ => rfl) rfl ?_
        refine RS.off (dj := 109) rfl (.inl (congrArg Value.bool hb44)) (fun _ => rfl) rfl ?_
        refine RS.off (dj := 109) rfl (.inl (congrArg Value.bool hb44)) (fun _ => rfl) rfl ?_
        refine RS.on (dj := 95) rfl (congrArg Value.bool hb42) ?_
        refine RS.q rfl (QO.pickT (by rfl) hb44 (by rfl)) ?_
        refine RS.on (dj := 95) rfl (congrArg Value.bool hb42) ?_
        refine RS.q rfl (QO.move) ?_
        refine RS.off (dj := 114) rfl (.inl (congrArg Value.bool rfl)) (fun _ => rfl) rfl ?_
        refine RS.off (dj := 114) rfl (.inl (congrArg Value.bool rfl)) (fun _ => rfl) rfl ?_
        refine RS.on (dj := 95) rfl (congrArg Value.bool hb42) ?_
        refine RS.q rfl (QO.pickT (by rfl) rfl (by rfl)) ?_
        refine RS.on (dj := 95) rfl (congrArg Value.bool hb42) ?_
        refine RS.q rfl (QO.move) ?_
        refine RS.off (dj := 118) rfl (.inl (congrArg Value.bool rfl)) (fun _ => rfl) rfl ?_
        refine RS.off (dj := 118) rfl (.inl (congrArg Value.bool rfl)) (fun _ => rfl) rfl ?_
        refine RS.off (dj := 118) rfl (.inl (congrArg Value.bool rfl)) (fun _ => rfl) rfl ?_
        refine RS.off (dj := 118) rfl (.inl (congrArg Value.bool rfl)) (fun _ => rfl) rfl ?_
        refine RS.on (dj := 95) rfl (congrArg Value.bool hb42) ?_
        refine RS.q rfl (QO.pickT (by rfl) rfl (by rfl)) ?_
        refine RS.q rfl (QO.pickT (by rfl) hb42 (by rfl)) ?_
        refine RS.q rfl (QO.assign) ?_
        refine RS.nil ?_
        refine thenC_n ?_
        refine CS.condT (by rfl) rfl ?_
        refine CS.seq ?_
        refine CS.region ?_
        refine RS.q rfl (QO.assign) ?_
        refine RS.nil ?_
        refine thenC_n ?_
        refine CS.ret ?_
        refine blockC_r ?_
        refine blockC_r ?_
        refine thenC_r ?_
        refine loopQ_r ?_
        refine blockC_r ?_
        refine thenC_r ?_
        refine retQ.mk (H' := []) (.inr rfl) (RVs.tmp (by rfl) RVs.nil) (List.nil_sublist _) ?_
        exact ⟨congrArg iv (edE_at hn hs hlen hz (by omega) (hev.trans (evE1_12 (by assumption) (by omega) (by omega) (by omega) (by omega))) (by decide)).symm, rfl⟩
      have hb44p := of_decide_eq_false hb44
      refine RS.on (dj := 109) rfl (congrArg Value.bool hb44) ?_
      refine RS.q rfl (QO.fieldAddr fo134_2 (by rfl)) ?_
      refine RS.on (dj := 109) rfl (congrArg Value.bool hb44) ?_
      refine RS.q rfl (QO.load ty3 (by rfl) (by repeat (first | exact List.Mem.head _ | refine List.Mem.tail _ ?_)) (by rfl)) ?_
      refine RS.on (dj := 109) rfl (congrArg Value.bool hb44) ?_
      refine RS.q rfl (QO.gtr (by rfl) (by rfl)) ?_
      refine RS.on (dj := 95) rfl (congrArg Value.bool hb42) ?_
      refine RS.q rfl (QO.pickF (by rfl) hb44 (by rfl)) ?_
      refine RS.on (dj := 95) rfl (congrArg Value.bool hb42) ?_
      refine RS.q rfl (QO.move) ?_
      refine RS.split (dj := 114) (by rfl) (fun hb45 => ?_) (fun hb45 => ?_)
      · have hb45p := of_decide_eq_true hb45
        refine RS.off (dj := 114) rfl (.inl (congrArg Value.bool hb45)) (fun _ => rfl) rfl ?_
        refine RS.off (dj := 114) rfl (.inl (congrArg Value.bool hb45)) (fun _ => rfl) rfl ?_
        refine RS.on (dj := 95) rfl (congrArg Value.bool hb42) ?_
        refine RS.q rfl (QO.pickT (by rfl) hb45 (by rfl)) ?_
        refine RS.on (dj := 95) rfl (congrArg Value.bool hb42) ?_
        refine RS.q rfl (QO.move) ?_
        refine RS.off (dj := 118) rfl (.inl (congrArg Value.bool rfl)) (fun _ => rfl) rfl ?_
        refine RS.off (dj := 118) rfl (.inl (congrArg Value.bool rfl)) (fun _ => rfl) rfl ?_
        refine RS.off (dj := 118) rfl (.inl (congrArg Value.bool rfl)) (fun _ => rfl) rfl ?_
        refine RS.off (dj := 118) rfl (.inl (congrArg Value.bool rfl)) (fun _ => rfl) rfl ?_
        refine RS.on (dj := 95) rfl (congrArg Value.bool hb42) ?_
        refine RS.q rfl (QO.pickT (by rfl) rfl (by rfl)) ?_
        refine RS.q rfl (QO.pickT (by rfl) hb42 (by rfl)) ?_
        refine RS.q rfl (QO.assign) ?_
        refine RS.nil ?_
        refine thenC_n ?_
        refine CS.condT (by rfl) rfl ?_
        refine CS.seq ?_
        refine CS.region ?_
        refine RS.q rfl (QO.assign) ?_
        refine RS.nil ?_
        refine thenC_n ?_
        refine CS.ret ?_
        refine blockC_r ?_
        refine blockC_r ?_
        refine thenC_r ?_
        refine loopQ_r ?_
        refine blockC_r ?_
        refine thenC_r ?_
        refine retQ.mk (H' := []) (.inr rfl) (RVs.tmp (by rfl) RVs.nil) (List.nil_sublist _) ?_
        exact ⟨congrArg iv (edE_at hn hs hlen hz (by omega) (hev.trans (evE1_12 (by assumption) (by omega) (by omega) (by omega) (by omega))) (by decide)).symm, rfl⟩
      have hb45p := of_decide_eq_false hb45
      refine RS.on (dj := 114) rfl (congrArg Value.bool hb45) ?_
      refine RS.q rfl (QO.move) ?_
      refine RS.on (dj := 114) rfl (congrArg Value.bool hb45) ?_
      refine RS.q rfl (QO.eql (by rfl) (by rfl)) ?_
      refine RS.on (dj := 95) rfl (congrArg Value.bool hb42) ?_
      refine RS.q rfl (QO.pickF (by rfl) hb45 (by rfl)) ?_
      refine RS.on (dj := 95) rfl (congrArg Value.bool hb42) ?_
      refine RS.q rfl (QO.move) ?_
      refine RS.split (dj := 118) (by rfl) (fun hb46 => ?_) (fun hb46 => ?_)
      · have hb46p := eq_of_beq hb46
        refine RS.off (dj := 118) rfl (.inl (congrArg Value.bool hb46)) (fun _ => rfl) rfl ?_
        refine RS.off (dj := 118) rfl (.inl (congrArg Value.bool hb46)) (fun _ => rfl) rfl ?_
        refine RS.off (dj := 118) rfl (.inl (congrArg Value.bool hb46)) (fun _ => rfl) rfl ?_
        refine RS.off (dj := 118) rfl (.inl (congrArg Value.bool hb46)) (fun _ => rfl) rfl ?_
        refine RS.on (dj := 95) rfl (congrArg Value.bool hb42) ?_
        refine RS.q rfl (QO.pickT (by rfl) hb46 (by rfl)) ?_
        refine RS.q rfl (QO.pickT (by rfl) hb42 (by rfl)) ?_
        refine RS.q rfl (QO.assign) ?_
        refine RS.nil ?_
        refine thenC_n ?_
        refine CS.condT (by rfl) rfl ?_
        refine CS.seq ?_
        refine CS.region ?_
        refine RS.q rfl (QO.assign) ?_
        refine RS.nil ?_
        refine thenC_n ?_
        refine CS.ret ?_
        refine blockC_r ?_
        refine blockC_r ?_
        refine thenC_r ?_
        refine loopQ_r ?_
        refine blockC_r ?_
        refine thenC_r ?_
        refine retQ.mk (H' := []) (.inr rfl) (RVs.tmp (by rfl) RVs.nil) (List.nil_sublist _) ?_
        exact ⟨congrArg iv (edE_at hn hs hlen hz (by omega) (hev.trans (evE1_12 (by assumption) (by omega) (by omega) (by omega) (by omega))) (by decide)).symm, rfl⟩
      have hb46p := ne_of_beq_false hb46
      refine RS.on (dj := 118) rfl (congrArg Value.bool hb46) ?_
      refine RS.q rfl (QO.fieldAddr fo134_5 (by rfl)) ?_
      refine RS.on (dj := 118) rfl (congrArg Value.bool hb46) ?_
      refine RS.q rfl (QO.load ty3 (by rfl) (by repeat (first | exact List.Mem.head _ | refine List.Mem.tail _ ?_)) (by rfl)) ?_
      refine RS.on (dj := 118) rfl (congrArg Value.bool hb46) ?_
      refine RS.q rfl (QO.move) ?_
      refine RS.on (dj := 118) rfl (congrArg Value.bool hb46) ?_
      refine RS.q rfl (QO.neq (by rfl) (by rfl)) ?_
      refine RS.on (dj := 95) rfl (congrArg Value.bool hb42) ?_
      refine RS.q rfl (QO.pickF (by rfl) hb46 (by rfl)) ?_
      refine RS.q rfl (QO.pickT (by rfl) hb42 (by rfl)) ?_
      refine RS.q rfl (QO.assign) ?_
      refine RS.nil ?_
      refine thenC_n ?_
      refine CS.cond (by rfl) (fun hb47 => ?_) (fun hb47 => ?_)
      · have hb47p := bne_iff_ne.1 hb47
        refine CS.seq ?_
        refine CS.region ?_
        refine RS.q rfl (QO.assign) ?_
        refine RS.nil ?_
        refine thenC_n ?_
        refine CS.ret ?_
        refine blockC_r ?_
        refine blockC_r ?_
        refine thenC_r ?_
        refine loopQ_r ?_
        refine blockC_r ?_
        refine thenC_r ?_
        refine retQ.mk (H' := []) (.inr rfl) (RVs.tmp (by rfl) RVs.nil) (List.nil_sublist _) ?_
        exact ⟨congrArg iv (edE_at hn hs hlen hz (by omega) (hev.trans (evE1_12 (by assumption) (by omega) (by omega) (by omega) (by omega))) (by decide)).symm, rfl⟩
      have hb47p := of_bne_false hb47
      refine CS.skip ?_
      refine blockC_n ?_
      refine blockC_n ?_
      refine thenC_n ?_
      refine CS.region ?_
      refine RS.q rfl (QO.add (by rfl) (by rfl) (by omega) (by omega)) ?_
      refine RS.q rfl (QO.move) ?_
      refine RS.nil ?_
      refine loopQ_n (by intro t ht; repeat (first | with_reducible exact rfl | exact frame_puts ht (frame_mix ht) _ rfl | (refine frame_put rfl ht ?_) | (refine frame_puts ht ?_ _ rfl) | exact frame_mix ht | (refine frame_mix2 rfl ht ?_) | exact rfl)) ?_
      exact ⟨k + 1, ⟨by omega, firstE_go hz (hev.trans (evE1_0 (by assumption) (by omega) (by omega) (by omega) (by omega)))⟩, by omega, (by repeat (first | exact kn_nil | refine kn_cons (by rfl) ?_)), (by repeat (first | exact List.Sublist.refl _ | exact List.nil_sublist _ | refine List.Sublist.cons_cons _ ?_ | refine List.Sublist.cons _ ?_ | exact Sbp.refl | exact Sbp.nil | refine Sbp.cons (by repeat (first | exact Rem.head | apply Rem.tail)) ?_ | exact Sbp.app | refine Sbp.skip ?_))⟩
    have hb42p := ne_of_beq_false hb42
    refine RS.off (dj := 95) rfl (.inl (congrArg Value.bool hb42)) (fun _ => rfl) rfl ?_
    refine RS.off (dj := 95) rfl (.inl (congrArg Value.bool hb42)) (fun _ => rfl) rfl ?_
    refine RS.off (dj := 95) rfl (.inl (congrArg Value.bool hb42)) (fun _ => rfl) rfl ?_
    refine RS.off (dj := 95) rfl (.inl (congrArg Value.bool hb42)) (fun _ => rfl) rfl ?_
    refine RS.off (dj := 99) (c := true) rfl (.inr rfl) (fun h => by cases h) rfl ?_
    refine RS.off (dj := 99) (c := true) rfl (.inr rfl) (fun h => by cases h) rfl ?_
    refine RS.off (dj := 99) (c := true) rfl (.inr rfl) (fun h => by cases h) rfl ?_
    refine RS.off (dj := 99) (c := true) rfl (.inr rfl) (fun h => by cases h) rfl ?_
    refine RS.off (dj := 99) (c := true) rfl (.inr rfl) (fun h => by cases h) rfl ?_
    refine RS.off (dj := 99) (c := true) rfl (.inr rfl) (fun h => by cases h) rfl ?_
    refine RS.off (dj := 99) (c := true) rfl (.inr rfl) (fun h => by cases h) rfl ?_
    refine RS.off (dj := 99) (c := true) rfl (.inr rfl) (fun h => by cases h) rfl ?_
    refine RS.off (dj := 95) rfl (.inl (congrArg Value.bool hb42)) (fun _ => rfl) rfl ?_
    refine RS.off (dj := 95) rfl (.inl (congrArg Value.bool hb42)) (fun _ => rfl) rfl ?_
    refine RS.off (dj := 109) (c := true) rfl (.inr rfl) (fun h => by cases h) rfl ?_
    refine RS.off (dj := 109) (c := true) rfl (.inr rfl) (fun h => by cases h) rfl ?_
    refine RS.off (dj := 109) (c := true) rfl (.inr rfl) (fun h => by cases h) rfl ?_
    refine RS.off (dj := 95) rfl (.inl (congrArg Value.bool hb42)) (fun _ => rfl) rfl ?_
    refine RS.off (dj := 95) rfl (.inl (congrArg Value.bool hb42)) (fun _ => rfl) rfl ?_
    refine RS.off (dj := 114) (c := true) rfl (.inr rfl) (fun h => by cases h) rfl ?_
    refine RS.off (dj := 114) (c := true) rfl (.inr rfl) (fun h => by cases h) rfl ?_
    refine RS.off (dj := 95) rfl (.inl (congrArg Value.bool hb42)) (fun _ => rfl) rfl ?_
    refine RS.off (dj := 95) rfl (.inl (congrArg Value.bool hb42)) (fun _ => rfl) rfl ?_
    refine RS.off (dj := 118) (c := true) rfl (.inr rfl) (fun h => by cases h) rfl ?_
    refine RS.off (dj := 118) (c := true) rfl (.inr rfl) (fun h => by cases h) rfl ?_
    refine RS.off (dj := 118) (c := true) rfl (.inr rfl) (fun h => by cases h) rfl ?_
    refine RS.off (dj := 118) (c := true) rfl (.inr rfl) (fun h => by cases h) rfl ?_
    refine RS.off (dj := 95) rfl (.inl (congrArg Value.bool hb42)) (fun _ => rfl) rfl ?_
    refine RS.q rfl (QO.pickF (by rfl) hb42 (by rfl)) ?_
    refine RS.q rfl (QO.assign) ?_
    refine RS.nil ?_
    refine thenC_n ?_
    refine CS.condF (by rfl) rfl ?_
    refine CS.skip ?_
    refine blockC_n ?_
    refine blockC_n ?_
    refine thenC_n ?_
    refine CS.region ?_
    refine RS.q rfl (QO.add (by rfl) (by rfl) (by omega) (by omega)) ?_
    refine RS.q rfl (QO.move) ?_
    refine RS.nil ?_
    refine loopQ_n (by intro t ht; repeat (first | with_reducible exact rfl | exact frame_puts ht (frame_mix ht) _ rfl | (refine frame_put rfl ht ?_) | (refine frame_puts ht ?_ _ rfl) | exact frame_mix ht | (refine frame_mix2 rfl ht ?_) | exact rfl)) ?_
    exact ⟨k + 1, ⟨by omega, firstE_go hz (hev.trans (evE1_0 (by assumption) (by omega) (by omega) (by omega) (by omega)))⟩, by omega, (by repeat (first | exact kn_nil | refine kn_cons (by rfl) ?_)), (by repeat (first | exact List.Sublist.refl _ | exact List.nil_sublist _ | refine List.Sublist.cons_cons _ ?_ | refine List.Sublist.cons _ ?_ | exact Sbp.refl | exact Sbp.nil | refine Sbp.cons (by repeat (first | exact Rem.head | apply Rem.tail)) ?_ | exact Sbp.app | refine Sbp.skip ?_))⟩
  have hb3p := of_decide_eq_false hb3
  refine CS.exit ?_
  refine thenC_x ?_
  refine loopQ_x ?_
  refine blockC_x ?_
  refine thenC_n ?_
  refine CS.seq ?_
  refine CS.region ?_
  refine RS.q rfl (QO.assign) ?_
  refine RS.nil ?_
  refine thenC_n ?_
  refine CS.ret ?_
  refine retQ.mk (H' := []) (.inr rfl) (RVs.tmp (by rfl) RVs.nil) (List.nil_sublist _) ?_
  exact ⟨congrArg iv ((edE_n hn hs hlen).trans ((congrArg (firstE (evErr l)) (show l.length = k by omega)).trans hz)).symm, rfl⟩

end Go.Proofs.YtapcgokcfmklbaaDoor
