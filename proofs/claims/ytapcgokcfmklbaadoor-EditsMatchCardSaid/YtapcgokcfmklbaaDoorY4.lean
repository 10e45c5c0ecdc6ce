/-
  Part 4 of what the proof leans on (E2, Matte, Dbl, Dbl3, Dbl4, Shr2, Dif, Eq2). Conditions: as each theorem says.
-/
import Derived.Test.YtapcgokcfmklbaaDoorY3
namespace Go.Proofs.YtapcgokcfmklbaaDoor
open Go Go.Proofs Go.RowKit

set_option maxHeartbeats 8000000 in
set_option maxRecDepth 100000 in
theorem editsError (t : List UInt8) (rate : Int) (A : Option Addr) (n c : Nat) (l : List Ev) (W : World) (ht : t.length ≤ maxLen) (hl : l.length = n) (hES : ES W A l) (hr : ∀ e ∈ l, e.reel.length ≤ maxLen) (hm : n ≤ maxLen) : Fn_ Tryd.prog 39 #[.agg #[sv t, iv rate, .slice A n c]] W (fun v H => v = iv (edE t rate l) ∧ H = []) := by
  subst hl
  unfold maxLen at hm
  refine Fn_.intro Tryd.func39 rfl rfl (by rfl) ?_
  refine CS.seq ?_
  refine CS.region ?_
  refine RS.box rfl (by rfl) (by rfl) ?_
  intro g1
  refine RS.q rfl (QO.assign) ?_
  refine RS.nil ?_
  refine thenC_n ?_
  refine CS.seq ?_
  refine CS.block ?_
  refine CS.seq ?_
  refine CS.region ?_
  refine RS.q rfl (QO.fieldAddr fo52_0 (by rfl)) ?_
  refine RS.q rfl (QO.load ty9 (by rfl) (by repeat (first | exact List.Mem.head _ | refine List.Mem.tail _ ?_)) (by rfl)) ?_
  refine RS.call rfl (by rfl) ok101 (by rfl) (fun w ho => risName t _ ht) ?_
  rintro _ _ ⟨rfl, rfl⟩
  refine RS.q rfl (QO.not (by rfl)) ?_
  refine RS.q rfl (QO.assign) ?_
  refine RS.nil ?_
  refine thenC_n ?_
  refine CS.cond (by rfl) (fun hb0 => ?_) (fun hb0 => ?_)
  · have hb0p := Eq.mp (Bool.not_eq_true' _) hb0
    refine CS.seq ?_
    refine CS.region ?_
    refine RS.q rfl (QO.assign) ?_
    refine RS.nil ?_
    refine thenC_n ?_
    refine CS.ret ?_
    refine blockC_r ?_
    refine thenC_r ?_
    refine retQ.mk (H' := []) (.inr rfl) (RVs.tmp (by rfl) RVs.nil) (List.nil_sublist _) ?_
    exact ⟨congrArg iv (edE_6 (by assumption)).symm, rfl⟩
  have hb0p := Eq.mp (Bool.not_eq_false' _) hb0
  refine CS.seq ?_
  refine CS.region ?_
  refine RS.q rfl (QO.fieldAddr fo52_1 (by rfl)) ?_
  refine RS.q rfl (QO.load ty3 (by rfl) (by repeat (first | exact List.Mem.head _ | refine List.Mem.tail _ ?_)) (by rfl)) ?_
  refine RS.call rfl (by rfl) ok88 (by rfl) (fun w ho => second _ _) ?_
  rintro _ _ ⟨rfl, rfl⟩
  refine RS.q rfl (QO.eql (by rfl) (by rfl)) ?_
  refine RS.q rfl (QO.assign) ?_
  refine RS.nil ?_
  refine thenC_n ?_
  refine CS.cond (by rfl) (fun hb1 => ?_) (fun hb1 => ?_)
  · have hb1p := eq_of_beq hb1
    refine CS.seq ?_
    refine CS.region ?_
    refine RS.q rfl (QO.assign) ?_
    refine RS.nil ?_
    refine thenC_n ?_
    refine CS.ret ?_
    refine blockC_r ?_
    refine thenC_r ?_
    refine retQ.mk (H' := []) (.inr rfl) (RVs.tmp (by rfl) RVs.nil) (List.nil_sublist _) ?_
    exact ⟨congrArg iv (edE_1 (by assumption) (by assumption)).symm, rfl⟩
  have hb1p := ne_of_beq_false hb1
  refine CS.seq ?_
  refine CS.region ?_
  refine RS.q rfl (QO.fieldAddr fo52_2 (by rfl)) ?_
  refine RS.q rfl (QO.load ty50 (by rfl) (by repeat (first | exact List.Mem.head _ | refine List.Mem.tail _ ?_)) (by rfl)) ?_
  refine RS.q rfl (QO.lenS Tryd.underlying50 (by rfl)) ?_
  refine RS.q rfl (QO.gtr (by rfl) (by rfl)) ?_
  refine RS.q rfl (QO.assign) ?_
  refine RS.nil ?_
  refine thenC_n ?_
  refine CS.cond (by rfl) (fun hb2 => ?_) (fun hb2 => ?_)
  · have hb2p := of_decide_eq_true hb2
    refine CS.seq ?_
    refine CS.region ?_
    refine RS.q rfl (QO.assign) ?_
    refine RS.nil ?_
    refine thenC_n ?_
    refine CS.ret ?_
    refine blockC_r ?_
    refine thenC_r ?_
    refine retQ.mk (H' := []) (.inr rfl) (RVs.tmp (by rfl) RVs.nil) (List.nil_sublist _) ?_
    exact ⟨congrArg iv (edE_4 (by assumption) (by assumption) (by omega)).symm, rfl⟩
  have hb2p := of_decide_eq_false hb2
  refine CS.skip ?_
  refine blockC_n ?_
  refine thenC_n ?_
  refine CS.seq ?_
  refine CS.seq ?_
  refine CS.region ?_
  refine RS.q rfl (QO.fieldAddr fo52_2 (by rfl)) ?_
  refine RS.q rfl (QO.load ty50 (by rfl) (by repeat (first | exact List.Mem.head _ | refine List.Mem.tail _ ?_)) (by rfl)) ?_
  refine RS.q rfl (QO.lenS Tryd.underlying50 (by rfl)) ?_
  refine RS.q rfl (QO.move) ?_
  refine RS.nil ?_
  refine thenC_n ?_
  refine CS.block ?_
  have hn : nameB t = true := by assumption
  have hs : sec rate ≠ 0 := by assumption
  have hlen : ¬ 500 < (l.length : Int) := by omega
  refine CS.loop (X := Nat) (2 :: 3 :: 4 :: 5 :: 24 :: 25 :: 26 :: 27 :: 28 :: 29 :: 30 :: 31 :: 32 :: 33 :: 34 :: 35 :: 36 :: 37 :: 38 :: 39 :: 40 :: 41 :: 42 :: 43 :: 44 :: 45 :: 46 :: 47 :: 48 :: 49 :: 50 :: 51 :: 52 :: 53 :: 54 :: 55 :: 56 :: 57 :: 58 :: 59 :: 60 :: 61 :: 62 :: 63 :: 64 :: 65 :: 66 :: 67 :: 68 :: 69 :: 70 :: 71 :: 72 :: 73 :: 74 :: 75 :: 76 :: 77 :: 78 :: 79 :: 80 :: 81 :: 82 :: 83 :: 84 :: 85 :: 86 :: 87 :: 88 :: 89 :: 90 :: 91 :: 92 :: 93 :: 94 :: 95 :: 96 :: 97 :: 98 :: 99 :: 100 :: 101 :: 102 :: 103 :: 104 :: 105 :: 106 :: 107 :: 108 :: 109 :: 110 :: 111 :: 112 :: 113 :: 114 :: 115 :: 116 :: 117 :: 118 :: 119 :: 120 :: 121 :: 122 :: 123 :: 124 :: 125 :: []) (fun k => [(24, iv (k : Int))]) (fun k => [⟨g1, 52, [sv t, iv rate, .slice A l.length c]⟩]) (fun k => k ≤ l.length ∧ firstE (evErr l) k = 0) (fun k => l.length - k) 0 ⟨Nat.zero_le _, rfl⟩ ?_ ?_ ?_
  · exact (by repeat (first | exact kn_nil | refine kn_cons (by rfl) ?_))
  · exact (by repeat (first | exact List.Sublist.refl _ | exact List.nil_sublist _ | refine List.Sublist.cons_cons _ ?_ | refine List.Sublist.cons _ ?_ | exact Sbp.refl | exact Sbp.nil | refine Sbp.cons (by repeat (first | exact Rem.head | apply Rem.tail)) ?_ | exact Sbp.app | refine Sbp.skip ?_))
  intro k gj8 hz
  obtain ⟨hk, hz⟩ := hz
  have heb := endB_bd hz
  refine CS.seq ?_
  refine CS.region ?_
  refine RS.q rfl (QO.lss (by rfl) (by rfl)) ?_
  refine RS.nil ?_
  refine thenC_n ?_
  refine CS.seq ?_
  refine CS.cond (by rfl) (fun hb3 => ?_) (fun hb3 => ?_)
  · have hb3p := of_decide_eq_true hb3
    refine CS.skip ?_
    refine thenC_n ?_
    refine CS.seq ?_
    refine CS.block ?_
    refine CS.seq ?_
    refine CS.region ?_
    refine RS.q rfl (QO.move) ?_
    have hkl : k < l.length := by omega
    have hx1 := hES.at_ hkl
    obtain ⟨bA, oA, hA0, hcell⟩ := hx1
    subst hA0
    have hev : evErr l k = evE1 (l.getD k default) k (endB l k) := rfl
    have hen : endB l (k + 1) = evEnd (l.getD k default) := rfl
    have hrl : (l.getD k default).reel.length ≤ maxLen := hr _ (by rw [List.getD_eq_getElem?_getD, List.getElem?_eq_getElem hkl]; exact List.getElem_mem _)
    have hx2 : ∃ e, l.getD k default = e := ⟨_, rfl⟩
    obtain ⟨e, he⟩ := hx2
    rw [he] at hcell hev hen hrl
    refine RS.q rfl (QO.idx Tryd.underlying50 ty134 (by rfl) (by rfl) (by omega) (by omega)) ?_
    refine RS.q rfl (QO.loadOA ty134 (vs := evc e) (by rfl) hcell (by rfl)) ?_
    refine RS.alloc rfl ty134 ?_
    intro g4
    refine RS.q rfl (QO.assign) ?_
    refine RS.storeB ty134 (by rfl) (by rfl) (by rfl) (by rfl) (by rfl) (by repeat (first | exact Upd.head | apply Upd.tail)) (by rfl) ?_
    refine RS.nil ?_
    refine thenC_n ?_
    refine CS.seq ?_
    refine CS.region ?_
    refine RS.q rfl (QO.assign) ?_
    refine RS.nil ?_
    refine thenC_n ?_
    refine CS.cut (X := Unit) [5, 29, 30, 31, 32, 33, 34, 35, 36, 37] (fun z => [(5, iv (endB l k))]) (fun z => [⟨g4, 134, [sv e.reel, iv e.kind, iv e.len, iv e.inn, iv e.out, iv e.at_]⟩, ⟨g1, 52, [sv t, iv rate, .slice (some ⟨bA, oA, none⟩) l.length c]⟩]) (fun z => True) ?_ ?_
    · refine CS.seq ?_
      refine CS.region ?_
      refine RS.q rfl (QO.move) ?_
      refine RS.q rfl (QO.gtr (by rfl) (by rfl)) ?_
      refine RS.nil ?_
      refine thenC_n ?_
      refine CS.cond (by rfl) (fun hb4 => ?_) (fun hb4 => ?_)
      · have hb4p := of_decide_eq_true hb4
        refine CS.region ?_
        have hx3 := hES.at_ (show k - 1 < l.length by omega)
        obtain ⟨bA2, oA2, hA2, hcel2⟩ := hx3
        obtain ⟨rfl, rfl⟩ : bA = bA2 ∧ oA = oA2 := by injection hA2 with hA2; injection hA2 with a1 a2; exact ⟨a1, a2⟩
        have hpk := evE1_ok (firstE_all hz (k - 1) (by omega))
        refine RS.q rfl (QO.fieldAddr fo52_2 (by rfl)) ?_
        refine RS.q rfl (QO.load ty50 (by rfl) (by repeat (first | exact List.Mem.head _ | refine List.Mem.tail _ ?_)) (by rfl)) ?_
        refine RS.q rfl (QO.move) ?_
        refine RS.qv rfl (QO.sub (by rfl) (by rfl) (by omega) (by omega)) (congrArg iv (show (k : Int) - 1 = ((k - 1 : Nat) : Int) by omega)) ?_
        refine RS.q rfl (QO.idx Tryd.underlying50 ty134 (by rfl) (by rfl) (by omega) (by omega)) ?_
        refine RS.q rfl (QO.loadOA ty134 (vs := evc (l.getD (k - 1) default)) (by rfl) hcel2 (by rfl)) ?_
        refine RS.call rfl (by rfl) ok102 (by rfl) (fun w ho => rend (l.getD (k - 1) default) _ (by omega) (by omega)) ?_
        rintro _ _ ⟨rfl, rfl⟩
        refine RS.q rfl (QO.assign) ?_
        refine RS.nil ?_
        refine cutQ_n (by intro t ht; repeat (first | with_reducible exact rfl | exact frame_puts ht (frame_mix ht) _ rfl | (refine frame_put rfl ht ?_) | (refine frame_puts ht ?_ _ rfl) | exact frame_mix ht | (refine frame_mix2 rfl ht ?_) | exact rfl)) ?_
        exact ⟨(), trivial, kn_cons (congrArg iv (show evEnd (l.getD (k - 1) default) = endB l k from (if_neg (by omega)).symm)) kn_nil, (by repeat (first | exact List.Sublist.refl _ | exact List.nil_sublist _ | refine List.Sublist.cons_cons _ ?_ | refine List.Sublist.cons _ ?_ | exact Sbp.refl | exact Sbp.nil | refine Sbp.cons (by repeat (first | exact Rem.head | apply Rem.tail)) ?_ | exact Sbp.app | refine Sbp.skip ?_))⟩
      have hb4p := of_decide_eq_false hb4
      refine CS.skip ?_
      refine cutQ_n (by intro t ht; repeat (first | with_reducible exact rfl | exact frame_puts ht (frame_mix ht) _ rfl | (refine frame_put rfl ht ?_) | (refine frame_puts ht ?_ _ rfl) | exact frame_mix ht | (refine frame_mix2 rfl ht ?_) | exact rfl)) ?_
      exact ⟨(), trivial, kn_cons (congrArg iv (show 0 = endB l k from (if_pos (by omega)).symm)) kn_nil, (by repeat (first | exact List.Sublist.refl _ | exact List.nil_sublist _ | refine List.Sublist.cons_cons _ ?_ | refine List.Sublist.cons _ ?_ | exact Sbp.refl | exact Sbp.nil | refine Sbp.cons (by repeat (first | exact Rem.head | apply Rem.tail)) ?_ | exact Sbp.app | refine Sbp.skip ?_))⟩
    intro z gj hz
    clear hz
    refine CS.block ?_
    refine CS.seq ?_
    refine CS.region ?_
    refine RS.q rfl (QO.fieldAddr fo134_0 (by rfl)) ?_
    refine RS.q rfl (QO.load ty9 (by rfl) (by repeat (first | exact List.Mem.head _ | refine List.Mem.tail _ ?_)) (by rfl)) ?_
    refine RS.call rfl (by rfl) ok101 (by rfl) (fun w ho => risName e.reel _ hrl) ?_
    rintro _ _ ⟨rfl, rfl⟩
    refine RS.q rfl (QO.not (by rfl)) ?_
    refine RS.q rfl (QO.assign) ?_
    refine RS.nil ?_
    refine thenC_n ?_
    refine CS.cond (by rfl) (fun hb5 => ?_) (fun hb5 => ?_)
    · have hb5p := Eq.mp (Bool.not_eq_true' _) hb5
      refine CS.seq ?_
      refine CS.region ?_
      refine RS.q rfl (QO.assign) ?_
      refine RS.nil ?_
      refine thenC_n ?_
      refine CS.ret ?_
      refine blockC_r ?_
      refine blockC_r ?_
      refine thenC_r ?_
      refine loopQ_r ?_
      refine blockC_r ?_
      refine thenC_r ?_
      refine retQ.mk (H' := []) (.inr rfl) (RVs.tmp (by rfl) RVs.nil) (List.nil_sublist _) ?_
      exact ⟨congrArg iv (edE_at hn hs hlen hz (by omega) (hev.trans (evE1_6 (by assumption))) (by decide)).symm, rfl⟩
    have hb5p := Eq.mp (Bool.not_eq_false' _) hb5
    refine CS.seq ?_
    refine CS.region ?_
    refine RS.q rfl (QO.fieldAddr fo134_1 (by rfl)) ?_
    refine RS.q rfl (QO.load ty3 (by rfl) (by repeat (first | exact List.Mem.head _ | refine List.Mem.tail _ ?_)) (by rfl)) ?_
    refine RS.q rfl (QO.neq (by rfl) (by rfl)) ?_
    refine RS.q rfl (QO.move) ?_
    refine RS.split (dj := 47) (by rfl) (fun hb6 => ?_) (fun hb6 => ?_)
    · have hb6p := bne_iff_ne.1 hb6
      refine RS.on (dj := 47) rfl (congrArg Value.bool hb6) ?_
      refine RS.q rfl (QO.fieldAddr fo134_1 (by rfl)) ?_
      refine RS.on (dj := 47) rfl (congrArg Value.bool hb6) ?_
      refine RS.q rfl (QO.load ty3 (by rfl) (by repeat (first | exact List.Mem.head _ | refine List.Mem.tail _ ?_)) (by rfl)) ?_
      refine RS.on (dj := 47) rfl (congrArg Value.bool hb6) ?_
      refine RS.q rfl (QO.neq (by rfl) (by rfl)) ?_
      refine RS.q rfl (QO.pickT (by rfl) hb6 (by rfl)) ?_
      refine RS.q rfl (QO.assign) ?_
      refine RS.nil ?_
      refine thenC_n ?_
      refine CS.cond (by rfl) (fun hb7 => ?_) (fun hb7 => ?_)
      · have hb7p := bne_iff_ne.1 hb7
        refine CS.seq ?_
        refine CS.region ?_
        refine RS.q rfl (QO.assign) ?_
        refine RS.nil ?_
        refine thenC_n ?_
        refine CS.ret ?_
        refine blockC_r ?_
        refine blockC_r ?_
        refine thenC_r ?_
        refine loopQ_r ?_
        refine blockC_r ?_
        refine thenC_r ?_
        refine retQ.mk (H' := []) (.inr rfl) (RVs.tmp (by rfl) RVs.nil) (List.nil_sublist _) ?_
        exact ⟨congrArg iv (edE_at hn hs hlen hz (by omega) (hev.trans (evE1_1 (by assumption) (by refine ⟨?_, ?_⟩ <;> omega))) (by decide)).symm, rfl⟩
      have hb7p := of_bne_false hb7
      refine CS.seq ?_
      refine CS.region ?_
      refine RS.q rfl (QO.fieldAddr fo134_3 (by rfl)) ?_
      refine RS.q rfl (QO.load ty3 (by rfl) (by repeat (first | exact List.Mem.head _ | refine List.Mem.tail _ ?_)) (by rfl)) ?_
      refine RS.q rfl (QO.lss (by rfl) (by rfl)) ?_
      refine RS.q rfl (QO.move) ?_
      refine RS.split (dj := 56) (by rfl) (fun hb8 => ?_) (fun hb8 => ?_)
      · have hb8p := of_decide_eq_true hb8
        refine RS.off (dj := 56) rfl (.inl (congrArg Value.bool hb8)) (fun _ => rfl) rfl ?_
        refine RS.off (dj := 56) rfl (.inl (congrArg Value.bool hb8)) (fun _ => rfl) rfl ?_
        refine RS.off (dj := 56) rfl (.inl (congrArg Value.bool hb8)) (fun _ => rfl) rfl ?_
        refine RS.off (dj := 56) rfl (.inl (congrArg Value.bool hb8)) (fun _ => rfl) rfl ?_
        refine RS.off (dj := 56) rfl (.inl (congrArg Value.bool hb8)) (fun _ => rfl) rfl ?_
        refine RS.q rfl (QO.pickT (by rfl) hb8 (by rfl)) ?_
        refine RS.q rfl (QO.move) ?_
        refine RS.off (dj := 63) rfl (.inl (congrArg Value.bool rfl)) (fun _ => rfl) rfl ?_
        refine RS.off (dj := 63) rfl (.inl (congrArg Value.bool rfl)) (fun _ => rfl) rfl ?_
        refine RS.off (dj := 63) rfl (.inl (congrArg Value.bool rfl)) (fun _ => rfl) rfl ?_
        refine RS.q rfl (QO.pickT (by rfl) rfl (by rfl)) ?_
        refine RS.q rfl (QO.move) ?_
        refine RS.off (dj := 68) rfl (.inl (congrArg Value.bool rfl)) (fun _ => rfl) rfl ?_
        refine RS.off (dj := 68) rfl (.inl (congrArg Value.bool rfl)) (fun _ => rfl) rfl ?_
        refine RS.off (dj := 68) rfl (.inl (congrArg Value.bool rfl)) (fun _ => rfl) rfl ?_
        refine RS.q rfl (QO.pickT (by rfl) rfl (by rfl)) ?_
        refine RS.q rfl (QO.move) ?_
        refine RS.off (dj := 73) rfl (.inl (congrArg Value.bool rfl)) (fun _ => rfl) rfl ?_
        refine RS.off (dj := 73) rfl (.inl (congrArg Value.bool rfl)) (fun _ => rfl) rfl ?_
        refine RS.off (dj := 73) rfl (.inl (congrArg Value.bool rfl)) (fun _ => rfl) rfl ?_
        refine RS.q rfl (QO.pickT (by rfl) rfl (by rfl)) ?_
        refine RS.q rfl (QO.assign) ?_
        refine RS.nil ?_
        refine thenC_n ?_
        refine CS.condT (by rfl) rfl ?_
        refine CS.seq ?_
        refine CS.region ?_
        refine RS.q rfl (QO.assign) ?_
        refine RS.nil ?_
        refine thenC_n ?_
        refine CS.ret ?_
        refine blockC_r ?_
        refine blockC_r ?_
        refine thenC_r ?_
        refine loopQ_r ?_
        refine blockC_r ?_
        refine thenC_r ?_
        refine retQ.mk (H' := []) (.inr rfl) (RVs.tmp (by rfl) RVs.nil) (List.nil_sublist _) ?_
        exact ⟨congrArg iv (edE_at hn hs hlen hz (by omega) (hev.trans (evE1_3 (by assumption) (by omega) (by omega))) (by decide)).symm, rfl⟩
      have hb8p := of_decide_eq_false hb8
      refine RS.on (dj := 56) rfl (congrArg Value.bool hb8) ?_
      refine RS.q rfl (QO.fieldAddr fo134_4 (by rfl)) ?_
      refine RS.on (dj := 56) rfl (congrArg Value.bool hb8) ?_
      refine RS.q rfl (QO.load ty3 (by rfl) (by repeat (first | exact List.Mem.head _ | refine List.Mem.tail _ ?_)) (by rfl)) ?_
      refine RS.on (dj := 56) rfl (congrArg Value.bool hb8) ?_
      refine RS.q rfl (QO.fieldAddr fo134_3 (by rfl)) ?_
      refine RS.on (dj := 56) rfl (congrArg Value.bool hb8) ?_
      refine RS.q rfl (QO.load ty3 (by rfl) (by repeat (first | exact List.Mem.head _ | refine List.Mem.tail _ ?_)) (by rfl)) ?_
      refine RS.on (dj := 56) rfl (congrArg Value.bool hb8) ?_
      refine RS.q rfl (QO.leq (by rfl) (by rfl)) ?_
      refine RS.q rfl (QO.pickF (by rfl) hb8 (by rfl)) ?_
      refine RS.q rfl (QO.move) ?_
      refine RS.split (dj := 63) (by rfl) (fun hb9 => ?_) (fun hb9 => ?_)
      · have hb9p := of_decide_eq_true hb9
        refine RS.off (dj := 63) rfl (.inl (congrArg Value.bool hb9)) (fun _ => rfl) rfl ?_
        refine RS.off (dj := 63) rfl (.inl (congrArg Value.bool hb9)) (fun _ => rfl) rfl ?_
        refine RS.off (dj := 63) rfl (.inl (congrArg Value.bool hb9)) (fun _ => rfl) rfl ?_
        refine RS.q rfl (QO.pickT (by rfl) hb9 (by rfl)) ?_
        refine RS.q rfl (QO.move) ?_
        refine RS.off (dj := 68) rfl (.inl (congrArg Value.bool rfl)) (fun _ => rfl) rfl ?_
        refine RS.off (dj := 68) rfl (.inl (congrArg Value.bool rfl)) (fun _ => rfl) rfl ?_
        refine RS.off (dj := 68) rfl (.inl (congrArg Value.bool rfl)) (fun _ => rfl) rfl ?_
        refine RS.q rfl (QO.pickT (by rfl) rfl (by rfl)) ?_
        refine RS.q rfl (QO.move) ?_
        refine RS.off (dj := 73) rfl (.inl (congrArg Value.bool rfl)) (fun _ => rfl) rfl ?_
        refine RS.off (dj := 73) rfl (.inl (congrArg Value.bool rfl)) (fun _ => rfl) rfl ?_
        refine RS.off (dj := 73) rfl (.inl (congrArg Value.bool rfl)) (fun _ => rfl) rfl ?_
        refine RS.q rfl (QO.pickT (by rfl) rfl (by rfl)) ?_
        refine RS.q rfl (QO.assign) ?_
        refine RS.nil ?_
        refine thenC_n ?_
        refine CS.condT (by rfl) rfl ?_
        refine CS.seq ?_
        refine CS.region ?_
        refine RS.q rfl (QO.assign) ?_
        refine RS.nil ?_
        refine thenC_n ?_
        refine CS.ret ?_
        refine blockC_r ?_
        refine blockC_r ?_
        refine thenC_r ?_
        refine loopQ_r ?_
        refine blockC_r ?_
        refine thenC_r ?_
        refine retQ.mk (H' := []) (.inr rfl) (RVs.tmp (by rfl) RVs.nil) (List.nil_sublist _) ?_
        exact ⟨congrArg iv (edE_at hn hs hlen hz (by omega) (hev.trans (evE1_3 (by assumption) (by omega) (by omega))) (by decide)).symm, rfl⟩
      have hb9p := of_decide_eq_false hb9
      refine RS.on (dj := 63) rfl (congrArg Value.bool hb9) ?_
      refine RS.q rfl (QO.fieldAddr fo134_4 (by rfl)) ?_
      refine RS.on (dj := 63) rfl (congrArg Value.bool hb9) ?_
      refine RS.q rfl (QO.load ty3 (by rfl) (by repeat (first | exact List.Mem.head _ | refine List.Mem.tail _ ?_)) (by rfl)) ?_
      refine RS.on (dj := 63) rfl (congrArg Value.bool hb9) ?_
      refine RS.q rfl (QO.gtr (by rfl) (by rfl)) ?_
      refine RS.q rfl (QO.pickF (by rfl) hb9 (by rfl)) ?_
      refine RS.q rfl (QO.move) ?_
      refine RS.split (dj := 68) (by rfl) (fun hb10 => ?_) (fun hb10 => ?_)
      · have hb10p := of_decide_eq_true hb10
        refine RS.off (dj := 68) rfl (.inl (congrArg Value.bool hb10)) (fun _ => rfl) rfl ?_
        refine RS.off (dj := 68) rfl (.inl (congrArg Value.bool hb10)) (fun _ => rfl) rfl ?_
        refine RS.off (dj := 68) rfl (.inl (congrArg Value.bool hb10)) (fun _ => rfl) rfl ?_
        refine RS.q rfl (QO.pickT (by rfl) hb10 (by rfl)) ?_
        refine RS.q rfl (QO.move) ?_
        refine RS.off (dj := 73) rfl (.inl (congrArg Value.bool rfl)) (fun _ => rfl) rfl ?_
        refine RS.off (dj := 73) rfl (.inl (congrArg Value.bool rfl)) (fun _ => rfl) rfl ?_
        refine RS.off (dj := 73) rfl (.inl (congrArg Value.bool rfl)) (fun _ => rfl) rfl ?_
        refine RS.q rfl (QO.pickT (by rfl) rfl (by rfl)) ?_
        refine RS.q rfl (QO.assign) ?_
        refine RS.nil ?_
        refine thenC_n ?_
        refine CS.condT (by rfl) rfl ?_
        refine CS.seq ?_
        refine CS.region ?_
        refine RS.q rfl (QO.assign) ?_
        refine RS.nil ?_
        refine thenC_n ?_
        refine CS.ret ?_
        refine blockC_r ?_
        refine blockC_r ?_
        refine thenC_r ?_
        refine loopQ_r ?_
        refine blockC_r ?_
        refine thenC_r ?_
        refine retQ.mk (H' := []) (.inr rfl) (RVs.tmp (by rfl) RVs.nil) (List.nil_sublist _) ?_
        exact ⟨congrArg iv (edE_at hn hs hlen hz (by omega) (hev.trans (evE1_3 (by assumption) (by omega) (by omega))) (by decide)).symm, rfl⟩
      have hb10p := of_decide_eq_false hb10
      refine RS.on (dj := 68) rfl (congrArg Value.bool hb10) ?_
      refine RS.q rfl (QO.fieldAddr fo134_5 (by rfl)) ?_
      refine RS.on (dj := 68) rfl (congrArg Value.bool hb10) ?_
      refine RS.q rfl (QO.load ty3 (by rfl) (by repeat (first | exact List.Mem.head _ | refine List.Mem.tail _ ?_)) (by rfl)) ?_
      refine RS.on (dj := 68) rfl (congrArg Value.bool hb10) ?_
      refine RS.q rfl (QO.gtr (by rfl) (by rfl)) ?_
      refine RS.q rfl (QO.pickF (by rfl) hb10 (by rfl)) ?_
      refine RS.q rfl (QO.move) ?_
      refine RS.split (dj := 73) (by rfl) (fun hb11 => ?_) (fun hb11 => ?_)
      · have hb11p := of_decide_eq_true hb11
        refine RS.off (dj := 73) rfl (.inl (congrArg Value.bool hb11)) (fun _ => rfl) rfl ?_
        refine RS.off (dj := 73) rfl (.inl (congrArg Value.bool hb11)) (fun _ => rfl) rfl ?_
        refine RS.off (dj := 73) rfl (.inl (congrArg Value.bool hb11)) (fun _ => rfl) rfl ?_
        refine RS.q rfl (QO.pickT (by rfl) hb11 (by rfl)) ?_
        refine RS.q rfl (QO.assign) ?_
        refine RS.nil ?_
        refine thenC_n ?_
        refine CS.condT (by rfl) rfl ?_
        refine CS.seq ?_
        refine CS.region ?_
        refine RS.q rfl (QO.assign) ?_
        refine RS.nil ?_
        refine thenC_n ?_
        refine CS.ret ?_
        refine blockC_r ?_
        refine blockC_r ?_
        refine thenC_r ?_
        refine loopQ_r ?_
        refine blockC_r ?_
        refine thenC_r ?_
        refine retQ.mk (H' := []) (.inr rfl) (RVs.tmp (by rfl) RVs.nil) (List.nil_sublist _) ?_
        exact ⟨congrArg iv (edE_at hn hs hlen hz (by omega) (hev.trans (evE1_3 (by assumption) (by omega) (by omega))) (by decide)).symm, rfl⟩
      have hb11p := of_decide_eq_false hb11
      refine RS.on (dj := 73) rfl (congrArg Value.bool hb11) ?_
      refine RS.q rfl (QO.fieldAddr fo134_5 (by rfl)) ?_
      refine RS.on (dj := 73) rfl (congrArg Value.bool hb11) ?_
      refine RS.q rfl (QO.load ty3 (by rfl) (by repeat (first | exact List.Mem.head _ | refine List.Mem.tail _ ?_)) (by rfl)) ?_
      refine RS.on (dj := 73) rfl (congrArg Value.bool hb11) ?_
      refine RS.q rfl (QO.lss (by rfl) (by rfl)) ?_
      refine RS.q rfl (QO.pickF (by rfl) hb11 (by rfl)) ?_
      refine RS.q rfl (QO.assign) ?_
      refine RS.nil ?_
      refine thenC_n ?_
      refine CS.cond (by rfl) (fun hb12 => ?_) (fun hb12 => ?_)
      · have hb12p := of_decide_eq_true hb12
        refine CS.seq ?_
        refine CS.region ?_
        refine RS.q rfl (QO.assign) ?_
        refine RS.nil ?_
        refine thenC_n ?_
        refine CS.ret ?_
        refine blockC_r ?_
        refine blockC_r ?_
        refine thenC_r ?_
        refine loopQ_r ?_
        refine blockC_r ?_
        refine thenC_r ?_
        refine retQ.mk (H' := []) (.inr rfl) (RVs.tmp (by rfl) RVs.nil) (List.nil_sublist _) ?_
        exact ⟨congrArg iv (edE_at hn hs hlen hz (by omega) (hev.trans (evE1_3 (by assumption) (by omega) (by omega))) (by decide)).symm, rfl⟩
      have hb12p := of_decide_eq_false hb12
      refine CS.seq ?_
      refine CS.region ?_
      refine RS.q rfl (QO.fieldAddr fo134_5 (by rfl)) ?_
      refine RS.q rfl (QO.load ty3 (by rfl) (by repeat (first | exact List.Mem.head _ | refine List.Mem.tail _ ?_)) (by rfl)) ?_
      refine RS.q rfl (QO.move) ?_
      refine RS.q rfl (QO.lss (by rfl) (by rfl)) ?_
      refine RS.q rfl (QO.assign) ?_
      refine RS.nil ?_
      refine thenC_n ?_
      refine CS.cond (by rfl) (fun hb13 => ?_) (fun hb13 => ?_)
      · have hb13p := of_decide_eq_true hb13
        refine CS.seq ?_
        refine CS.region ?_
        refine RS.q rfl (QO.assign) ?_
        refine RS.nil ?_
        refine thenC_n ?_
        refine CS.ret ?_
        refine blockC_r ?_
        refine blockC_r ?_
        refine thenC_r ?_
        refine loopQ_r ?_
        refine blockC_r ?_
        refine thenC_r ?_
        refine retQ.mk (H' := []) (.inr rfl) (RVs.tmp (by rfl) RVs.nil) (List.nil_sublist _) ?_
        exact ⟨congrArg iv (edE_at hn hs hlen hz (by omega) (hev.trans (evE1_8 (by assumption) (by omega) (by omega) (by omega))) (by decide)).symm, rfl⟩
      have hb13p := of_decide_eq_false hb13
      refine CS.seq ?_
      refine CS.seq ?_
      refine CS.region ?_
      refine RS.q rfl (QO.fieldAddr fo134_1 (by rfl)) ?_
      refine RS.q rfl (QO.load ty3 (by rfl) (by repeat (first | exact List.Mem.head _ | refine List.Mem.tail _ ?_)) (by rfl)) ?_
      refine RS.q rfl (QO.eql (by rfl) (by rfl)) ?_
      refine RS.q rfl (QO.move) ?_
      refine RS.split (dj := 87) (by rfl) (fun hb14 => ?_) (fun hb14 => ?_)
      · have hb14p := eq_of_beq hb14
        refine RS.on (dj := 87) rfl (congrArg Value.bool hb14) ?_
        refine RS.q rfl (QO.fieldAddr fo134_2 (by rfl)) ?_
        refine RS.on (dj := 87) rfl (congrArg Value.bool hb14) ?_
        refine RS.q rfl (QO.load ty3 (by rfl) (by repeat (first | exact List.Mem.head _ | refine List.Mem.tail _ ?_)) (by rfl)) ?_
        refine RS.on (dj := 87) rfl (congrArg Value.bool hb14) ?_
        refine RS.q rfl (QO.neq (by rfl) (by rfl)) ?_
        refine RS.q rfl (QO.pickT (by rfl) hb14 (by rfl)) ?_
        refine RS.q rfl (QO.assign) ?_
        refine RS.nil ?_
        refine thenC_n ?_
        refine CS.cond (by rfl) (fun hb15 => ?_) (fun hb15 => ?_)
        · have hb15p := bne_iff_ne.1 hb15
          refine CS.skip ?_
          refine thenC_n ?_
          refine CS.condT (by rfl) hb15 ?_
          refine CS.seq ?_
          refine CS.region ?_
          refine RS.q rfl (QO.assign) ?_
          refine RS.nil ?_
          refine thenC_n ?_
          refine CS.ret ?_
          refine blockC_r ?_
          refine blockC_r ?_
          refine thenC_r ?_
          refine loopQ_r ?_
          refine blockC_r ?_
          refine thenC_r ?_
          refine retQ.mk (H' := []) (.inr rfl) (RVs.tmp (by rfl) RVs.nil) (List.nil_sublist _) ?_
          exact ⟨congrArg iv (edE_at hn hs hlen hz (by omega) (hev.trans (evE1_12 (by assumption) (by omega) (by omega) (by omega) (by omega))) (by decide)).symm, rfl⟩
        have hb15p := of_bne_false hb15
        refine CS.region ?_
        refine RS.q rfl (QO.fieldAddr fo134_1 (by rfl)) ?_
        refine RS.q rfl (QO.load ty3 (by rfl) (by repeat (first | exact List.Mem.head _ | refine List.Mem.tail _ ?_)) (by rfl)) ?_
        refine RS.q rfl (QO.eql (by rfl) (by rfl)) ?_
        refine RS.q rfl (QO.move) ?_
        refine RS.split (dj := 95) (by rfl) (fun hb16 => ?_) (fun hb16 => ?_)
        · have hb16p := eq_of_beq hb16
          refine RS.on (dj := 95) rfl (congrArg Value.bool hb16) ?_
          refine RS.q rfl (QO.fieldAddr fo134_2 (by rfl)) ?_
          refine RS.on (dj := 95) rfl (congrArg Value.bool hb16) ?_
          refine RS.q rfl (QO.load ty3 (by rfl) (by repeat (first | exact List.Mem.head _ | refine List.Mem.tail _ ?_)) (by rfl)) ?_
          refine RS.on (dj := 95) rfl (congrArg Value.bool hb16) ?_
          refine RS.q rfl (QO.lss (by rfl) (by rfl)) ?_
          refine RS.on (dj := 95) rfl (congrArg Value.bool hb16) ?_
          refine RS.q rfl (QO.move) ?_
          refine RS.split (dj := 99) (by rfl) (fun hb17 => ?_) (fun hb17 => ?_)
          · have hb17p := of_decide_eq_true hb17
            refine RS.off (dj := 99) rfl (.inl (congrArg Value.bool hb17)) (fun _ => rfl) rfl ?_
            refine RS.off (dj := 99) rfl (.inl (congrArg Value.bool hb17)) (fun _ => rfl) rfl ?_
            refine RS.off (dj := 99) rfl (.inl (congrArg Value.bool hb17)) (fun _ => rfl) rfl ?_
            refine RS.off (dj := 99) rfl (.inl (congrArg Value.bool hb17)) (fun _ => rfl) rfl ?_
            refine RS.off (dj := 99) rfl (.inl (congrArg Value.bool hb17)) (fun _ => rfl) rfl ?_
            refine RS.off (dj := 99) rfl (.inl (congrArg Value.bool hb17)) (fun _ => rfl) rfl ?_
            refine RS.off (dj := 99) rfl (.inl (congrArg Value.bool hb17)) (fun _ => rfl) rfl ?_
            refine RS.off (dj := 99) rfl (.inl (congrArg Value.bool hb17)) (fun _ => rfl) rfl ?_
            refine RS.on (dj := 95) rfl (congrArg Value.bool hb16) ?_
            refine RS.q rfl (QO.pickT (by rfl) hb17 (by rfl)) ?_
            refine RS.on (dj := 95) rfl (congrArg Value.bool hb16) ?_
            refine RS.q rfl (QO.move) ?_
            refine RS.off (dj := 109) rfl (.inl (congrArg Value.bool rfl)) (fun _ => rfl) rfl ?_
            refine RS.off (dj := 109) rfl (.inl (congrArg Value.bool rfl)) (fun _ => rfl) rfl ?_
            refine RS.off (dj := 109) rfl (.inl (congrArg Value.bool rfl)) (fun _ => rfl) rfl ?_
            refine RS.on (dj := 95) rfl (congrArg Value.bool hb16) ?_
            refine RS.q rfl (QO.pickT (by rfl) rfl (by rfl)) ?_
            refine RS.on (dj := 95) rfl (congrArg Value.bool hb16) ?_
            refine RS.q rfl (QO.move) ?_
            refine RS.off (dj := 114) rfl (.inl (congrArg Value.bool rfl)) (fun _ => rfl) rfl ?_
            refine RS.off (dj := 114) rfl (.inl (congrArg Value.bool rfl)) (fun _ => rfl) rfl ?_
            refine RS.on (dj := 95) rfl (congrArg Value.bool hb16) ?_
            refine RS.q rfl (QO.pickT (by rfl) rfl (by rfl)) ?_
            refine RS.on (dj := 95) rfl (congrArg Value.bool hb16) ?_
            refine RS.q rfl (QO.move) ?_
            refine RS.off (dj := 118) rfl (.inl (congrArg Value.bool rfl)) (fun _ => rfl) rfl ?_
            refine RS.off (dj := 118) rfl (.inl (congrArg Value.bool rfl)) (fun _ => rfl) rfl ?_
            refine RS.off (dj := 118) rfl (.inl (congrArg Value.bool rfl)) (fun _ => rfl) rfl ?_
            refine RS.off (dj := 118) rfl (.inl (congrArg Value.bool rfl)) (fun _ => rfl) rfl ?_
            refine RS.on (dj := 95) rfl (congrArg Value.bool hb16) ?_
            refine RS.q rfl (QO.pickT (by rfl) rfl (by rfl)) ?_
            refine RS.q rfl (QO.pickT (by rfl) hb16 (by rfl)) ?_
            refine RS.q rfl (QO.assign) ?_
            refine RS.nil ?_
            refine thenC_n ?_
            refine CS.condT (by rfl) rfl ?_
            refine CS.seq ?_
            refine CS.region ?_
            refine RS.q rfl (QO.assign) ?_
            refine RS.nil ?_
            refine thenC_n ?_
            refine CS.ret ?_
            refine blockC_r ?_
            refine blockC_r ?_
            refine thenC_r ?_
            refine loopQ_r ?_
            refine blockC_r ?_
            refine thenC_r ?_
            refine retQ.mk (H' := []) (.inr rfl) (RVs.tmp (by rfl) RVs.nil) (List.nil_sublist _) ?_
            exact ⟨congrArg iv (edE_at hn hs hlen hz (by omega) (hev.trans (evE1_12 (by assumption) (by omega) (by omega) (by omega) (by omega))) (by decide)).symm, rfl⟩
          have hb17p := of_decide_eq_false hb17
          refine RS.on (dj := 99) rfl (congrArg Value.bool hb17) ?_
          refine RS.q rfl (QO.fieldAddr fo134_2 (by rfl)) ?_
          refine RS.on (dj := 99) rfl (congrArg Value.bool hb17) ?_
          refine RS.q rfl (QO.load ty3 (by rfl) (by repeat (first | exact List.Mem.head _ | refine List.Mem.tail _ ?_)) (by rfl)) ?_
          refine RS.on (dj := 99) rfl (congrArg Value.bool hb17) ?_
          refine RS.q rfl (QO.fieldAddr fo134_4 (by rfl)) ?_
          refine RS.on (dj := 99) rfl (congrArg Value.bool hb17) ?_
          refine RS.q rfl (QO.load ty3 (by rfl) (by repeat (first | exact List.Mem.head _ | refine List.Mem.tail _ ?_)) (by rfl)) ?_
          refine RS.on (dj := 99) rfl (congrArg Value.bool hb17) ?_
          refine RS.q rfl (QO.fieldAddr fo134_3 (by rfl)) ?_
          refine RS.on (dj := 99) rfl (congrArg Value.bool hb17) ?_
          refine RS.q rfl (QO.load ty3 (by rfl) (by repeat (first | exact List.Mem.head _ | refine List.Mem.tail _ ?_)) (by rfl)) ?_
          refine RS.on (dj := 99) rfl (congrArg Value.bool hb17) ?_
          refine RS.q rfl (QO.sub (by rfl) (by rfl) (by omega) (by omega)) ?_
          refine RS.on (dj := 99) rfl (congrArg Value.bool hb17) ?_
          refine RS.q rfl (QO.gtr (by rfl) (by rfl)) ?_
          refine RS.on (dj := 95) rfl (congrArg Value.bool hb16) ?_
          refine RS.q rfl (QO.pickF (by rfl) hb17 (by rfl)) ?_
          refine RS.on (dj := 95) rfl (congrArg Value.bool hb16) ?_
          refine RS.q rfl (QO.move) ?_
          refine RS.split (dj := 109) (by rfl) (fun hb18 => ?_) (fun hb18 => ?_)
          · have hb18p := of_decide_eq_true hb18
            refine RS.off (dj := 109) rfl (.inl (congrArg Value.bool hb18)) (fun _ => rfl) rfl ?_
            refine RS.off (dj := 109) rfl (.inl (congrArg Value.bool hb18)) (fun _ => rfl) rfl ?_
            refine RS.off (dj := 109) rfl (.inl (congrArg Value.bool hb18)) (fun _ => rfl) rfl ?_
            refine RS.on (dj := 95) rfl (congrArg Value.bool hb16) ?_
            refine RS.q rfl (QO.pickT (by rfl) hb18 (by rfl)) ?_
            refine RS.on (dj := 95) rfl (congrArg Value.bool hb16) ?_
            refine RS.q rfl (QO.move) ?_
            refine RS.off (dj := 114) rfl (.inl (congrArg Value.bool rfl)) (fun _ => rfl) rfl ?_
            refine RS.off (dj := 114) rfl (.inl (congrArg Value.bool rfl)) (fun _ => rfl) rfl ?_
            refine RS.on (dj := 95) rfl (congrArg Value.bool hb16) ?_
            refine RS.q rfl (QO.pickT (by rfl) rfl (by rfl)) ?_
            refine RS.on (dj := 95) rfl (congrArg Value.bool hb16) ?_
            refine RS.q rfl (QO.move) ?_
            refine RS.off (dj := 118) rfl (.inl (congrArg Value.bool rfl)) (fun _ => rfl) rfl ?_
            refine RS.off (dj := 118) rfl (.inl (congrArg Value.bool rfl)) (fun _ => rfl) rfl ?_
            refine RS.off (dj := 118) rfl (.inl (congrArg Value.bool rfl)) (fun _ => rfl) rfl ?_
            refine RS.off (dj := 118) rfl (.inl (congrArg Value.bool rfl)) (fun _ => rfl) rfl ?_
            refine RS.on (dj := 95) rfl (congrArg Value.bool hb16) ?_
            refine RS.q rfl (QO.pickT (by rfl) rfl (by rfl)) ?_
            refine RS.q rfl (QO.pickT (by rfl) hb16 (by rfl)) ?_
            refine RS.q rfl (QO.assign) ?_
            refine RS.nil ?_
            refine thenC_n ?_
            refine CS.condT (by rfl) rfl ?_
            refine CS.seq ?_
            refine CS.region ?_
            refine RS.q rfl (QO.assign) ?_
            refine RS.nil ?_
            refine thenC_n ?_
            refine CS.ret ?_
            refine blockC_r ?_
            refine blockC_r ?_
            refine thenC_r ?_
            refine loopQ_r ?_
            refine blockC_r ?_
            refine thenC_r ?_
            refine retQ.mk (H' := []) (.inr rfl) (RVs.tmp (by rfl) RVs.nil) (List.nil_sublist _) ?_
            exact ⟨congrArg iv (edE_at hn hs hlen hz (by omega) (hev.trans (evE1_12 (by assumption) (by omega) (by omega) (by omega) (by omega))) (by decide)).symm, rfl⟩
          have hb18p := of_decide_eq_false hb18
          refine RS.on (dj := 109) rfl (congrArg Value.bool hb18) ?_
          refine RS.q rfl (QO.fieldAddr fo134_2 (by rfl)) ?_
          refine RS.on (dj := 109) rfl (congrArg Value.bool hb18) ?_
          refine RS.q rfl (QO.load ty3 (by rfl) (by repeat (first | exact List.Mem.head _ | refine List.Mem.tail _ ?_)) (by rfl)) ?_
          refine RS.on (dj := 109) rfl (congrArg Value.bool hb18) ?_
          refine RS.q rfl (QO.gtr (by rfl) (by rfl)) ?_
          refine RS.on (dj := 95) rfl (congrArg Value.bool hb16) ?_
          refine RS.q rfl (QO.pickF (by rfl) hb18 (by rfl)) ?_
          refine RS.on (dj := 95) rfl (congrArg Value.bool hb16) ?_
          refine RS.q rfl (QO.move) ?_
          refine RS.split (dj := 114) (by rfl) (fun hb19 => ?_) (fun hb19 => ?_)
          · have hb19p := of_decide_eq_true hb19
            refine RS.off (dj := 114) rfl (.inl (congrArg Value.bool hb19)) (fun _ => rfl) rfl ?_
            refine RS.off (dj := 114) rfl (.inl (congrArg Value.bool hb19)) (fun _ => rfl) rfl ?_
            refine RS.on (dj := 95) rfl (congrArg Value.bool hb16) ?_
            refine RS.q rfl (QO.pickT (by rfl) hb19 (by rfl)) ?_
            refine RS.on (dj := 95) rfl (congrArg Value.bool hb16) ?_
            refine RS.q rfl (QO.move) ?_
            refine RS.off (dj := 118) rfl (.inl (congrArg Value.bool rfl)) (fun _ => rfl) rfl ?_
            refine RS.off (dj := 118) rfl (.inl (congrArg Value.bool rfl)) (fun _ => rfl) rfl ?_
            refine RS.off (dj := 118) rfl (.inl (congrArg Value.bool rfl)) (fun _ => rfl) rfl ?_
            refine RS.off (dj := 118) rfl (.inl (congrArg Value.bool rfl)) (fun _ => rfl) rfl ?_
            refine RS.on (dj := 95) rfl (congrArg Value.bool hb16) ?_
            refine RS.q rfl (QO.pickT (by rfl) rfl (by rfl)) ?_
            refine RS.q rfl (QO.pickT (by rfl) hb16 (by rfl)) ?_
            refine RS.q rfl (QO.assign) ?_
            refine RS.nil ?_
            refine thenC_n ?_
            refine CS.condT (by rfl) rfl ?_
            refine CS.seq ?_
            refine CS.region ?_
            refine RS.q rfl (QO.assign) ?_
            refine RS.nil ?_
            refine thenC_n ?_
            refine CS.ret ?_
            refine blockC_r ?_
            refine blockC_r ?_
            refine thenC_r ?_
            refine loopQ_r ?_
            refine blockC_r ?_
            refine thenC_r ?_
            refine retQ.mk (H' := []) (.inr rfl) (RVs.tmp (by rfl) RVs.nil) (List.nil_sublist _) ?_
            exact ⟨congrArg iv (edE_at hn hs hlen hz (by omega) (hev.trans (evE1_12 (by assumption) (by omega) (by omega) (by omega) (by omega))) (by decide)).symm, rfl⟩
          have hb19p := of_decide_eq_false hb19
          refine RS.on (dj := 114) rfl (congrArg Value.bool hb19) ?_
          refine RS.q rfl (QO.move) ?_
          refine RS.on (dj := 114) rfl (congrArg Value.bool hb19) ?_
          refine RS.q rfl (QO.eql (by rfl) (by rfl)) ?_
          refine RS.on (dj := 95) rfl (congrArg Value.bool hb16) ?_
          refine RS.q rfl (QO.pickF (by rfl) hb19 (by rfl)) ?_
          refine RS.on (dj := 95) rfl (congrArg Value.bool hb16) ?_
          refine RS.q rfl (QO.move) ?_
          refine RS.split (dj := 118) (by rfl) (fun hb20 => ?_) (fun hb20 => ?_)
          · have hb20p := eq_of_beq hb20
            refine RS.off (dj := 118) rfl (.inl (congrArg Value.bool hb20)) (fun _ => rfl) rfl ?_
            refine RS.off (dj := 118) rfl (.inl (congrArg Value.bool hb20)) (fun _ => rfl) rfl ?_
            refine RS.off (dj := 118) rfl (.inl (congrArg Value.bool hb20)) (fun _ => rfl) rfl ?_
            refine RS.off (dj := 118) rfl (.inl (congrArg Value.bool hb20)) (fun _ => rfl) rfl ?_
            refine RS.on (dj := 95) rfl (congrArg Value.bool hb16) ?_
            refine RS.q rfl (QO.pickT (by rfl) hb20 (by rfl)) ?_
            refine RS.q rfl (QO.pickT (by rfl) hb16 (by rfl)) ?_
            refine RS.q rfl (QO.assign) ?_
            refine RS.nil ?_
            refine thenC_n ?_
            refine CS.condT (by rfl) rfl ?_
            refine CS.seq ?_
            refine CS.region ?_
            refine RS.q rfl (QO.assign) ?_
            refine RS.nil ?_
            refine thenC_n ?_
            refine CS.ret ?_
            refine blockC_r ?_
            refine blockC_r ?_
            refine thenC_r ?_
            refine loopQ_r ?_
            refine blockC_r ?_
            refine thenC_r ?_
            refine retQ.mk (H' := []) (.inr rfl) (RVs.tmp (by rfl) RVs.nil) (List.nil_sublist _) ?_
            exact ⟨congrArg iv (edE_at hn hs hlen hz (by omega) (hev.trans (evE1_12 (by assumption) (by omega) (by omega) (by omega) (by omega))) (by decide)).symm, rfl⟩
          have hb20p := ne_of_beq_false hb20
          refine RS.on (dj := 118) rfl (congrArg Value.bool hb20) ?_
          refine RS.q rfl (QO.fieldAddr fo134_5 (by rfl)) ?_
          refine RS.on (dj := 118) rfl (congrArg Value.bool hb20) ?_
          refine RS.q rfl (QO.load ty3 (by rfl) (by repeat (first | exact List.Mem.head _ | refine List.Mem.tail _ ?_)) (by rfl)) ?_
          refine RS.on (dj := 118) rfl (congrArg Value.bool hb20) ?_
          refine RS.q rfl (QO.move) ?_
          refine RS.on (dj := 118) rfl (congrArg Value.bool hb20) ?_
          refine RS.q rfl (QO.neq (by rfl) (by rfl)) ?_
          refine RS.on (dj := 95) rfl (congrArg Value.bool hb16) ?_
          refine RS.q rfl (QO.pickF (by rfl) hb20 (by rfl)) ?_
          refine RS.q rfl (QO.pickT (by rfl) hb16 (by rfl)) ?_
          refine RS.q rfl (QO.assign) ?_
          refine RS.nil ?_
          refine thenC_n ?_
          refine CS.cond (by rfl) (fun hb21 => ?_) (fun hb21 => ?_)
          · have hb21p := bne_iff_ne.1 hb21
            refine CS.seq ?_
            refine CS.region ?_
            refine RS.q rfl (QO.assign) ?_
            refine RS.nil ?_
            refine thenC_n ?_
            refine CS.ret ?_
            refine blockC_r ?_
            refine blockC_r ?_
            refine thenC_r ?_
            refine loopQ_r ?_
            refine blockC_r ?_
            refine thenC_r ?_
            refine retQ.mk (H' := []) (.inr rfl) (RVs.tmp (by rfl) RVs.nil) (List.nil_sublist _) ?_
            exact ⟨congrArg iv (edE_at hn hs hlen hz (by omega) (hev.trans (evE1_12 (by assumption) (by omega) (by omega) (by omega) (by omega))) (by decide)).symm, rfl⟩
          have hb21p := of_bne_false hb21
          refine CS.skip ?_
          refine blockC_n ?_
          refine blockC_n ?_
          refine thenC_n ?_
          refine CS.region ?_
          refine RS.q rfl (QO.add (by rfl) (by rfl) (by omega) (by omega)) ?_
          refine RS.q rfl (QO.move) ?_
          refine RS.nil ?_
          refine loopQ_n (by intro t ht; repeat (first | with_reducible exact rfl | exact frame_puts ht (frame_mix ht) _ rfl | (refine frame_put rfl ht ?_) | (refine frame_puts ht ?_ _ rfl) | exact frame_mix ht | (refine frame_mix2 rfl ht ?_) | exact rfl)) ?_
          exact ⟨k + 1, ⟨by omega, firstE_go hz (hev.trans (evE1_0 (by assumption) (by omega) (by omega) (by omega) (by omega)))⟩, by omega, (by repeat (first | exact kn_nil | refine kn_cons (by rfl) ?_)), (by repeat (first | exact List.Sublist.refl _ | exact List.nil_sublist _ | refine List.Sublist.cons_cons _ ?_ | refine List.Sublist.cons _ ?_ | exact Sbp.refl | exact Sbp.nil | refine Sbp.cons (by repeat (first | exact Rem.head | apply Rem.tail)) ?_ | exact Sbp.app | refine Sbp.skip ?_))⟩
        have hb16p := ne_of_beq_false hb16
        refine RS.off (dj := 95) rfl (.inl (congrArg Value.bool hb16)) (fun _ => rfl) rfl ?_
        refine RS.off (dj := 95) rfl (.inl (congrArg Value.bool hb16)) (fun _ => rfl) rfl ?_
        refine RS.off (dj := 95) rfl (.inl (congrArg Value.bool hb16)) (fun _ => rfl) rfl ?_
        refine RS.off (dj := 95) rfl (.inl (congrArg Value.bool hb16)) (fun _ => rfl) rfl ?_
        refine RS.off (dj := 99) (c := true) rfl (.inr rfl) (fun h => by cases h) rfl ?_
        refine RS.off (dj := 99) (c := true) rfl (.inr rfl) (fun h => by cases h) rfl ?_
        refine RS.off (dj := 99) (c := true) rfl (.inr rfl) (fun h => by cases h) rfl ?_
        refine RS.off (dj := 99) (c := true) rfl (.inr rfl) (fun h => by cases h) rfl ?_
        refine RS.off (dj := 99) (c := true) rfl (.inr rfl) (fun h => by cases h) rfl ?_
        refine RS.off (dj := 99) (c := true) rfl (.inr rfl) (fun h => by cases h) rfl ?_
        refine RS.off (dj := 99) (c := true) rfl (.inr rfl) (fun h => by cases h) rfl ?_
        refine RS.off (dj := 99) (c := true) rfl (.inr rfl) (fun h => by cases h) rfl ?_
        refine RS.off (dj := 95) rfl (.inl (congrArg Value.bool hb16)) (fun _ => rfl) rfl ?_
        refine RS.off (dj := 95) rfl (.inl (congrArg Value.bool hb16)) (fun _ => rfl) rfl ?_
        refine RS.off (dj := 109) (c := true) rfl (.inr rfl) (fun h => by cases h) rfl ?_
        refine RS.off (dj := 109) (c := true) rfl (.inr rfl) (fun h => by cases h) rfl ?_
        refine RS.off (dj := 109) (c := true) rfl (.inr rfl) (fun h => by cases h) rfl ?_
        refine RS.off (dj := 95) rfl (.inl (congrArg Value.bool hb16)) (fun _ => rfl) rfl ?_
        refine RS.off (dj := 95) rfl (.inl (congrArg Value.bool hb16)) (fun _ => rfl) rfl ?_
        refine RS.off (dj := 114) (c := true) rfl (.inr rfl) (fun h => by cases h) rfl ?_
        refine RS.off (dj := 114) (c := true) rfl (.inr rfl) (fun h => by cases h) rfl ?_
        refine RS.off (dj := 95) rfl (.inl (congrArg Value.bool hb16)) (fun _ => rfl) rfl ?_
        refine RS.off (dj := 95) rfl (.inl (congrArg Value.bool hb16)) (fun _ => rfl) rfl ?_
        refine RS.off (dj := 118) (c := true) rfl (.inr rfl) (fun h => by cases h) rfl ?_
        refine RS.off (dj := 118) (c := true) rfl (.inr rfl) (fun h => by cases h) rfl ?_
        refine RS.off (dj := 118) (c := true) rfl (.inr rfl) (fun h => by cases h) rfl ?_
        refine RS.off (dj := 118) (c := true) rfl (.inr rfl) (fun h => by cases h) rfl ?_
        refine RS.off (dj := 95) rfl (.inl (congrArg Value.bool hb16)) (fun _ => rfl) rfl ?_
        refine RS.q rfl (QO.pickF (by rfl) hb16 (by rfl)) ?_
        refine RS.q rfl (QO.assign) ?_
        refine RS.nil ?_
        refine thenC_n ?_
        refine CS.condF (by rfl) rfl ?_
        refine CS.skip ?_
        refine blockC_n ?_
        refine blockC_n ?_
        refine thenC_n ?_
        refine CS.region ?_
        refine RS.q rfl (QO.add (by rfl) (by rfl) (by omega) (by omega)) ?_
        refine RS.q rfl (QO.move) ?_
        refine RS.nil ?_
        refine loopQ_n (by intro t ht; repeat (first | with_reducible exact rfl | exact frame_puts ht (frame_mix ht) _ rfl | (refine frame_put rfl ht ?_) | (refine frame_puts ht ?_ _ rfl) | exact frame_mix ht | (refine frame_mix2 rfl ht ?_) | exact rfl)) ?_
        exact ⟨k + 1, ⟨by omega, firstE_go hz (hev.trans (evE1_0 (by assumption) (by omega) (by omega) (by omega) (by omega)))⟩, by omega, (by repeat (first | exact kn_nil | refine kn_cons (by rfl) ?_)), (by repeat (first | exact List.Sublist.refl _ | exact List.nil_sublist _ | refine List.Sublist.cons_cons _ ?_ | refine List.Sublist.cons _ ?_ | exact Sbp.refl | exact Sbp.nil | refine Sbp.cons (by repeat (first | exact Rem.head | apply Rem.tail)) ?_ | exact Sbp.app | refine Sbp.skip ?_))⟩
      have hb14p := ne_of_beq_false hb14
      refine RS.off (dj := 87) rfl (.inl (congrArg Value.bool hb14)) (fun _ => rfl) rfl ?_
      refine RS.off (dj := 87) rfl (.inl (congrArg Value.bool hb14)) (fun _ => rfl) rfl ?_
      refine RS.off (dj := 87) rfl (.inl (congrArg Value.bool hb14)) (fun _ => rfl) rfl ?_
      refine RS.q rfl (QO.pickF (by rfl) hb14 (by rfl)) ?_
      refine RS.q rfl (QO.assign) ?_
      refine RS.nil ?_
      refine thenC_n ?_
      refine CS.condF (by rfl) rfl ?_
      refine CS.region ?_
      refine RS.q rfl (QO.fieldAddr fo134_1 (by rfl)) ?_
      refine RS.q rfl (QO.load ty3 (by rfl) (by repeat (first | exact List.Mem.head _ | refine List.Mem.tail _ ?_)) (by rfl)) ?_
      refine RS.q rfl (QO.eql (by rfl) (by rfl)) ?_
      refine RS.q rfl (QO.move) ?_
      refine RS.split (dj := 95) (by rfl) (fun hb22 => ?_) (fun hb22 => ?_)
      · have hb22p := eq_of_beq hb22
        refine RS.on (dj := 95) rfl (congrArg Value.bool hb22) ?_
        refine RS.q rfl (QO.fieldAddr fo134_2 (by rfl)) ?_
        refine RS.on (dj := 95) rfl (congrArg Value.bool hb22) ?_
        refine RS.q rfl (QO.load ty3 (by rfl) (by repeat (first | exact List.Mem.head _ | refine List.Mem.tail _ ?_)) (by rfl)) ?_
        refine RS.on (dj := 95) rfl (congrArg Value.bool hb22) ?_
        refine RS.q rfl (QO.lss (by rfl) (by rfl)) ?_
        refine RS.on (dj := 95) rfl (congrArg Value.bool hb22) ?_
        refine RS.q rfl (QO.move) ?_
        refine RS.split (dj := 99) (by rfl) (fun hb23 => ?_) (fun hb23 => ?_)
        · have hb23p := of_decide_eq_true hb23
          refine RS.off (dj := 99) rfl (.inl (congrArg Value.bool hb23)) (fun _ => rfl) rfl ?_
          refine RS.off (dj := 99) rfl (.inl (congrArg Value.bool hb23)) (fun _ => rfl) rfl ?_
          refine RS.off (dj := 99) rfl (.inl (congrArg Value.bool hb23)) (fun _ => rfl) rfl ?_
          refine RS.off (dj := 99) rfl (.inl (congrArg Value.bool hb23)) (fun _ => rfl) rfl ?_
          refine RS.off (dj := 99) rfl (.inl (congrArg Value.bool hb23)) (fun _ => rfl) rfl ?_
          refine RS.off (dj := 99) rfl (.inl (congrArg Value.bool hb23)) (fun _ => rfl) rfl ?_
          refine RS.off (dj := 99) rfl (.inl (congrArg Value.bool hb23)) (fun _ => rfl) rfl ?_
          refine RS.off (dj := 99) rfl (.inl (congrArg Value.bool hb23)) (fun _ => rfl) rfl ?_
          refine RS.on (dj := 95) rfl (congrArg Value.bool hb22) ?_
          refine RS.q rfl (QO.pickT (by rfl) hb23 (by rfl)) ?_
          refine RS.on (dj := 95) rfl (congrArg Value.bool hb22) ?_
          refine RS.q rfl (QO.move) ?_
          refine RS.off (dj := 109) rfl (.inl (congrArg Value.bool rfl)) (fun _ => rfl) rfl ?_
          refine RS.off (dj := 109) rfl (.inl (congrArg Value.bool rfl)) (fun _ => rfl) rfl ?_
          refine RS.off (dj := 109) rfl (.inl (congrArg Value.bool rfl)) (fun _ => rfl) rfl ?_
          refine RS.on (dj := 95) rfl (congrArg Value.bool hb22) ?_
          refine RS.q rfl (QO.pickT (by rfl) rfl (by rfl)) ?_
          refine RS.on (dj := 95) rfl (congrArg Value.bool hb22) ?_
          refine RS.q rfl (QO.move) ?_
          refine RS.off (dj := 114) rfl (.inl (congrArg Value.bool rfl)) (fun _ => rfl) rfl ?_
          refine RS.off (dj := 114) rfl (.inl (congrArg Value.bool rfl)) (fun _ => rfl) rfl ?_
          refine RS.on (dj := 95) rfl (congrArg Value.bool hb22) ?_
          refine RS.q rfl (QO.pickT (by rfl) rfl (by rfl)) ?_
          refine RS.on (dj := 95) rfl (congrArg Value.bool hb22) ?_
          refine RS.q rfl (QO.move) ?_
          refine RS.off (dj := 118) rfl (.inl (congrArg Value.bool rfl)) (fun _ => rfl) rfl ?_
          refine RS.off (dj := 118) rfl (.inl (congrArg Value.bool rfl)) (fun _ => rfl) rfl ?_
          refine RS.off (dj := 118) rfl (.inl (congrArg Value.bool rfl)) (fun _ => rfl) rfl ?_
          refine RS.off (dj := 118) rfl (.inl (congrArg Value.bool rfl)) (fun _ => rfl) rfl ?_
          refine RS.on (dj := 95) rfl (congrArg Value.bool hb22) ?_
          refine RS.q rfl (QO.pickT (by rfl) rfl (by rfl)) ?_
          refine RS.q rfl (QO.pickT (by rfl) hb22 (by rfl)) ?_
          refine RS.q rfl (QO.assign) ?_
          refine RS.nil ?_
          refine thenC_n ?_
          refine CS.condT (by rfl) rfl ?_
          refine CS.seq ?_
          refine CS.region ?_
          refine RS.q rfl (QO.assign) ?_
          refine RS.nil ?_
          refine thenC_n ?_
          refine CS.ret ?_
          refine blockC_r ?_
          refine blockC_r ?_
          refine thenC_r ?_
          refine loopQ_r ?_
          refine blockC_r ?_
          refine thenC_r ?_
          refine retQ.mk (H' := []) (.inr rfl) (RVs.tmp (by rfl) RVs.nil) (List.nil_sublist _) ?_
          exact ⟨congrArg iv (edE_at hn hs hlen hz (by omega) (hev.trans (evE1_12 (by assumption) (by omega) (by omega) (by omega) (by omega))) (by decide)).symm, rfl⟩
        have hb23p := of_decide_eq_false hb23
        refine RS.on (dj := 99) rfl (congrArg Value.bool hb23) ?_
        refine RS.q rfl (QO.fieldAddr fo134_2 (by rfl)) ?_
        refine RS.on (dj := 99) rfl (congrArg Value.bool hb23) ?_
        refine RS.q rfl (QO.load ty3 (by rfl) (by repeat (first | exact List.Mem.head _ | refine List.Mem.tail _ ?_)) (by rfl)) ?_
        refine RS.on (dj := 99) rfl (congrArg Value.bool hb23) ?_
        refine RS.q rfl (QO.fieldAddr fo134_4 (by rfl)) ?_
        refine RS.on (dj := 99) rfl (congrArg Value.bool hb23) ?_
        refine RS.q rfl (QO.load ty3 (by rfl) (by repeat (first | exact List.Mem.head _ | refine List.Mem.tail _ ?_)) (by rfl)) ?_
        refine RS.on (dj := 99) rfl (congrArg Value.bool hb23) ?_
        refine RS.q rfl (QO.fieldAddr fo134_3 (by rfl)) ?_
        refine RS.on (dj := 99) rfl (congrArg Value.bool hb23) ?_
        refine RS.q rfl (QO.load ty3 (by rfl) (by repeat (first | exact List.Mem.head _ | refine List.Mem.tail _ ?_)) (by rfl)) ?_
        refine RS.on (dj := 99) rfl (congrArg Value.bool hb23) ?_
        refine RS.q rfl (QO.sub (by rfl) (by rfl) (by omega) (by omega)) ?_
        refine RS.on (dj := 99) rfl (congrArg Value.bool hb23) ?_
        refine RS.q rfl (QO.gtr (by rfl) (by rfl)) ?_
        refine RS.on (dj := 95) rfl (congrArg Value.bool hb22) ?_
        refine RS.q rfl (QO.pickF (by rfl) hb23 (by rfl)) ?_
        refine RS.on (dj := 95) rfl (congrArg Value.bool hb22) ?_
        refine RS.q rfl (QO.move) ?_
        refine RS.split (dj := 109) (by rfl) (fun hb24 => ?_) (fun hb24 => ?_)
        · have hb24p := of_decide_eq_true hb24
          refine RS.off (dj := 109) rfl (.inl (congrArg Value.bool hb24)) (fun _ => rfl) rfl ?_
          refine RS.off (dj := 109) rfl (.inl (congrArg Value.bool hb24)) (fun _ => rfl) rfl ?_
          refine RS.off (dj := 109) rfl (.inl (congrArg Value.bool hb24)) (fun _ => rfl) rfl ?_
          refine RS.on (dj := 95) rfl (congrArg Value.bool hb22) ?_
          refine RS.q rfl (QO.pickT (by rfl) hb24 (by rfl)) ?_
          refine RS.on (dj := 95) rfl (congrArg Value.bool hb22) ?_
          refine RS.q rfl (QO.move) ?_
          refine RS.off (dj := 114) rfl (.inl (congrArg Value.bool rfl)) (fun _ => rfl) rfl ?_
          refine RS.off (dj := 114) rfl (.inl (congrArg Value.bool rfl)) (fun _ => rfl) rfl ?_
          refine RS.on (dj := 95) rfl (congrArg Value.bool hb22) ?_
          refine RS.q rfl (QO.pickT (by rfl) rfl (by rfl)) ?_
          refine RS.on (dj := 95) rfl (congrArg Value.bool hb22) ?_
          refine RS.q rfl (QO.move) ?_
          refine RS.off (dj := 118) rfl (.inl (congrArg Value.bool rfl)) (fun _ => rfl) rfl ?_
          refine RS.off (dj := 118) rfl (.inl (congrArg Value.bool rfl)) (fun _ => rfl) rfl ?_
          refine RS.off (dj := 118) rfl (.inl (congrArg Value.bool rfl)) (fun _ => rfl) rfl ?_
          refine RS.off (dj := 118) rfl (.inl (congrArg Value.bool rfl)) (fun _ => rfl) rfl ?_
          refine RS.on (dj := 95) rfl (congrArg Value.bool hb22) ?_
          refine RS.q rfl (QO.pickT (by rfl) rfl (by rfl)) ?_
          refine RS.q rfl (QO.pickT (by rfl) hb22 (by rfl)) ?_
          refine RS.q rfl (QO.assign) ?_
          refine RS.nil ?_
          refine thenC_n ?_
          refine CS.condT (by rfl) rfl ?_
          refine CS.seq ?_
          refine CS.region ?_
          refine RS.q rfl (QO.assign) ?_
          refine RS.nil ?_
          refine thenC_n ?_
          refine CS.ret ?_
          refine blockC_r ?_
          refine blockC_r ?_
          refine thenC_r ?_
          refine loopQ_r ?_
          refine blockC_r ?_
          refine thenC_r ?_
          refine retQ.mk (H' := []) (.inr rfl) (RVs.tmp (by rfl) RVs.nil) (List.nil_sublist _) ?_
          exact ⟨congrArg iv (edE_at hn hs hlen hz (by omega) (hev.trans (evE1_12 (by assumption) (by omega) (by omega) (by omega) (by omega))) (by decide)).symm, rfl⟩
        have hb24p := of_decide_eq_false hb24
        refine RS.on (dj := 109) rfl (congrArg Value.bool hb24) ?_
        refine RS.q rfl (QO.fieldAddr fo134_2 (by rfl)) ?_
        refine RS.on (dj := 109) rfl (congrArg Value.bool hb24) ?_
        refine RS.q rfl (QO.load ty3 (by rfl) (by repeat (first | exact List.Mem.head _ | refine List.Mem.tail _ ?_)) (by rfl)) ?_
        refine RS.on (dj := 109) rfl (congrArg Value.bool hb24) ?_
        refine RS.q rfl (QO.gtr (by rfl) (by rfl)) ?_
        refine RS.on (dj := 95) rfl (congrArg Value.bool hb22) ?_
        refine RS.q rfl (QO.pickF (by rfl) hb24 (by rfl)) ?_
        refine RS.on (dj := 95) rfl (congrArg Value.bool hb22) ?_
        refine RS.q rfl (QO.move) ?_
        refine RS.split (dj := 114) (by rfl) (fun hb25 => ?_) (fun hb25 => ?_)
        · have hb25p := of_decide_eq_true hb25
          refine RS.off (dj := 114) rfl (.inl (congrArg Value.bool hb25)) (fun _ => rfl) rfl ?_
          refine RS.off (dj := 114) rfl (.inl (congrArg Value.bool hb25)) (fun _ => rfl) rfl ?_
          refine RS.on (dj := 95) rfl (congrArg Value.bool hb22) ?_
          refine RS.q rfl (QO.pickT (by rfl) hb25 (by rfl)) ?_
          refine RS.on (dj := 95) rfl (congrArg Value.bool hb22) ?_
          refine RS.q rfl (QO.move) ?_
          refine RS.off (dj := 118) rfl (.inl (congrArg Value.bool rfl)) (fun _ => rfl) rfl ?_
          refine RS.off (dj := 118) rfl (.inl (congrArg Value.bool rfl)) (fun _ => rfl) rfl ?_
          refine RS.off (dj := 118) rfl (.inl (congrArg Value.bool rfl)) (fun _ => rfl) rfl ?_
          refine RS.off (dj := 118) rfl (.inl (congrArg Value.bool rfl)) (fun _ => rfl) rfl ?_
          refine RS.on (dj := 95) rfl (congrArg Value.bool hb22) ?_
          refine RS.q rfl (QO.pickT (by rfl) rfl (by rfl)) ?_
          refine RS.q rfl (QO.pickT (by rfl) hb22 (by rfl)) ?_
          refine RS.q rfl (QO.assign) ?_
          refine RS.nil ?_
          refine thenC_n ?_
          refine CS.condT (by rfl) rfl ?_
          refine CS.seq ?_
          refine CS.region ?_
          refine RS.q rfl (QO.assign) ?_
          refine RS.nil ?_
          refine thenC_n ?_
          refine CS.ret ?_
          refine blockC_r ?_
          refine blockC_r ?_
          refine thenC_r ?_
          refine loopQ_r ?_
          refine blockC_r ?_
          refine thenC_r ?_
          refine retQ.mk (H' := []) (.inr rfl) (RVs.tmp (by rfl) RVs.nil) (List.nil_sublist _) ?_
          exact ⟨congrArg iv (edE_at hn hs hlen hz (by omega) (hev.trans (evE1_12 (by assumption) (by omega) (by omega) (by omega) (by omega))) (by decide)).symm, rfl⟩
        have hb25p := of_decide_eq_false hb25
        refine RS.on (dj := 114) rfl (congrArg Value.bool hb25) ?_
        refine RS.q rfl (QO.move) ?_
        refine RS.on (dj := 114) rfl (congrArg Value.bool hb25) ?_
        refine RS.q rfl (QO.eql (by rfl) (by rfl)) ?_
        refine RS.on (dj := 95) rfl (congrArg Value.bool hb22) ?_
        refine RS.q rfl (QO.pickF (by rfl) hb25 (by rfl)) ?_
        refine RS.on (dj := 95) rfl (congrArg Value.bool hb22) ?_
        refine RS.q rfl (QO.move) ?_
        refine RS.split (dj := 118) (by rfl) (fun hb26 => ?_) (fun hb26 => ?_)
        · have hb26p := eq_of_beq hb26
          refine RS.off (dj := 118) rfl (.inl (congrArg Value.bool hb26)) (fun _ => rfl) rfl ?_
          refine RS.off (dj := 118) rfl (.inl (congrArg Value.bool hb26)) (fun _ => rfl) rfl ?_
          refine RS.off (dj := 118) rfl (.inl (congrArg Value.bool hb26)) (fun _ => rfl) rfl ?_
          refine RS.off (dj := 118) rfl (.inl (congrArg Value.bool hb26)) (fun _ => rfl) rfl ?_
          refine RS.on (dj := 95) rfl (congrArg Value.bool hb22) ?_
          refine RS.q rfl (QO.pickT (by rfl) hb26 (by rfl)) ?_
          refine RS.q rfl (QO.pickT (by rfl) hb22 (by rfl)) ?_
          refine RS.q rfl (QO.assign) ?_
          refine RS.nil ?_
          refine thenC_n ?_
          refine CS.condT (by rfl) rfl ?_
          refine CS.seq ?_
          refine CS.region ?_
          refine RS.q rfl (QO.assign) ?_
          refine RS.nil ?_
          refine thenC_n ?_
          refine CS.ret ?_
          refine blockC_r ?_
          refine blockC_r ?_
          refine thenC_r ?_
          refine loopQ_r ?_
          refine blockC_r ?_
          refine thenC_r ?_
          refine retQ.mk (H' := []) (.inr rfl) (RVs.tmp (by rfl) RVs.nil) (List.nil_sublist _) ?_
          exact ⟨congrArg iv (edE_at hn hs hlen hz (by omega) (hev.trans (evE1_12 (by assumption) (by omega) (by omega) (by omega) (by omega))) (by decide)).symm, rfl⟩
        have hb26p := ne_of_beq_false hb26
        refine RS.on (dj := 118) rfl (congrArg Value.bool hb26) ?_
        refine RS.q rfl (QO.fieldAddr fo134_5 (by rfl)) ?_
        refine RS.on (dj := 118) rfl (congrArg Value.bool hb26) ?_
        refine RS.q rfl (QO.load ty3 (by rfl) (by repeat (first | exact List.Mem.head _ | refine List.Mem.tail _ ?_)) (by rfl)) ?_
        refine RS.on (dj := 118) rfl (congrArg Value.bool hb26) ?_
        refine RS.q rfl (QO.move) ?_
        refine RS.on (dj := 118) rfl (congrArg Value.bool hb26) ?_
        refine RS.q rfl (QO.neq (by rfl) (by rfl)) ?_
        refine RS.on (dj := 95) rfl (congrArg Value.bool hb22) ?_
        refine RS.q rfl (QO.pickF (by rfl) hb26 (by rfl)) ?_
        refine RS.q rfl (QO.pickT (by rfl) hb22 (by rfl)) ?_
        refine RS.q rfl (QO.assign) ?_
        refine RS.nil ?_
        refine thenC_n ?_
        refine CS.cond (by rfl) (fun hb27 => ?_) (fun hb27 => ?_)
        · have hb27p := bne_iff_ne.1 hb27
          refine CS.seq ?_
          refine CS.region ?_
          refine RS.q rfl (QO.assign) ?_
          refine RS.nil ?_
          refine thenC_n ?_
          refine CS.ret ?_
          refine blockC_r ?_
          refine blockC_r ?_
          refine thenC_r ?_
          refine loopQ_r ?_
          refine blockC_r ?_
          refine thenC_r ?_
          refine retQ.mk (H' := []) (.inr rfl) (RVs.tmp (by rfl) RVs.nil) (List.nil_sublist _) ?_
          exact ⟨congrArg iv (edE_at hn hs hlen hz (by omega) (hev.trans (evE1_12 (by assumption) (by omega) (by omega) (by omega) (by omega))) (by decide)).symm, rfl⟩
        have hb27p := of_bne_false hb27
        refine CS.skip ?_
        refine blockC_n ?_
        refine blockC_n ?_
        refine thenC_n ?_
        refine CS.region ?_
        refine RS.q rfl (QO.add (by rfl) (by rfl) (by omega) (by omega)) ?_
        refine RS.q rfl (QO.move) ?_
        refine RS.nil ?_
        refine loopQ_n (by intro t ht; repeat (first | with_reducible exact rfl | exact frame_puts ht (frame_mix ht) _ rfl | (refine frame_put rfl ht ?_) | (refine frame_puts ht ?_ _ rfl) | exact frame_mix ht | (refine frame_mix2 rfl ht ?_) | exact rfl)) ?_
        exact ⟨k + 1, ⟨by omega, firstE_go hz (hev.trans (evE1_0 (by assumption) (by omega) (by omega) (by omega) (by omega)))⟩, by omega, (by repeat (first | exact kn_nil | refine kn_cons (by rfl) ?_)), (by repeat (first | exact List.Sublist.refl _ | exact List.nil_sublist _ | refine List.Sublist.cons_cons _ ?_ | refine List.Sublist.cons _ ?_ | exact Sbp.refl | exact Sbp.nil | refine Sbp.cons (by repeat (first | exact Rem.head | apply Rem.tail)) ?_ | exact Sbp.app | refine Sbp.skip ?_))⟩
      have hb22p := ne_of_beq_false hb22
      refine RS.off (dj := 95) rfl (.inl (congrArg Value.bool hb22)) (fun _ => rfl) rfl ?_
      refine RS.off (dj := 95) rfl (.inl (congrArg Value.bool hb22)) (fun _ => rfl) rfl ?_
      refine RS.off (dj := 95) rfl (.inl (congrArg Value.bool hb22)) (fun _ => rfl) rfl ?_
      refine RS.off (dj := 95) rfl (.inl (congrArg Value.bool hb22)) (fun _ => rfl) rfl ?_
      refine RS.off (dj := 99) (c := true) rfl (.inr rfl) (fun h => by cases h) rfl ?_
      refine RS.off (dj := 99) (c := true) rfl (.inr rfl) (fun h => by cases h) rfl ?_
      refine RS.off (dj := 99) (c := true) rfl (.inr rfl) (fun h => by cases h) rfl ?_
      refine RS.off (dj := 99) (c := true) rfl (.inr rfl) (fun h => by cases h) rfl ?_
      refine RS.off (dj := 99) (c := true) rfl (.inr rfl) (fun h => by cases h) rfl ?_
      refine RS.off (dj := 99) (c := true) rfl (.inr rfl) (fun h => by cases h) rfl ?_
      refine RS.off (dj := 99) (c := true) rfl (.inr rfl) (fun h => by cases h) rfl ?_
      refine RS.off (dj := 99) (c := true) rfl (.inr rfl) (fun h => by cases h) rfl ?_
      refine RS.off (dj := 95) rfl (.inl (congrArg Value.bool hb22)) (fun _ => rfl) rfl ?_
      refine RS.off (dj := 95) rfl (.inl (congrArg Value.bool hb22)) (fun _ => rfl) rfl ?_
      refine RS.off (dj := 109) (c := true) rfl (.inr rfl) (fun h => by cases h) rfl ?_
      refine RS.off (dj := 109) (c := true) rfl (.inr rfl) (fun h => by cases h) rfl ?_
      refine RS.off (dj := 109) (c := true) rfl (.inr rfl) (fun h => by cases h) rfl ?_
      refine RS.off (dj := 95) rfl (.inl (congrArg Value.bool hb22)) (fun _ => rfl) rfl ?_
      refine RS.off (dj := 95) rfl (.inl (congrArg Value.bool hb22)) (fun _ => rfl) rfl ?_
      refine RS.off (dj := 114) (c := true) rfl (.inr rfl) (fun h => by cases h) rfl ?_
      refine RS.off (dj := 114) (c := true) rfl (.inr rfl) (fun h => by cases h) rfl ?_
      refine RS.off (dj := 95) rfl (.inl (congrArg Value.bool hb22)) (fun _ => rfl) rfl ?_
      refine RS.off (dj := 95) rfl (.inl (congrArg Value.bool hb22)) (fun _ => rfl) rfl ?_
      refine RS.off (dj := 118) (c := true) rfl (.inr rfl) (fun h => by cases h) rfl ?_
      refine RS.off (dj := 118) (c := true) rfl (.inr rfl) (fun h => by cases h) rfl ?_
      refine RS.off (dj := 118) (c := true) rfl (.inr rfl) (fun h => by cases h) rfl ?_
      refine RS.off (dj := 118) (c := true) rfl (.inr rfl) (fun h => by cases h) rfl ?_
      refine RS.off (dj := 95) rfl (.inl (congrArg Value.bool hb22)) (fun _ => rfl) rfl ?_
      refine RS.q rfl (QO.pickF (by rfl) hb22 (by rfl)) ?_
      refine RS.q rfl (QO.assign) ?_
      refine RS.nil ?_
      refine thenC_n ?_
      refine CS.condF (by rfl) rfl ?_
      refine CS.skip ?_
      refine blockC_n ?_
      refine blockC_n ?_
      refine thenC_n ?_
      refine CS.region ?_
      refine RS.q rfl (QO.add (by rfl) (by rfl) (by omega) (by omega)) ?_
      refine RS.q rfl (QO.move) ?_
      refine RS.nil ?_
      refine loopQ_n (by intro t ht; repeat (first | with_reducible exact rfl | exact frame_puts ht (frame_mix ht) _ rfl | (refine frame_put rfl ht ?_) | (refine frame_puts ht ?_ _ rfl) | exact frame_mix ht | (refine frame_mix2 rfl ht ?_) | exact rfl)) ?_
      exact ⟨k + 1, ⟨by omega, firstE_go hz (hev.trans (evE1_0 (by assumption) (by omega) (by omega) (by omega) (by omega)))⟩, by omega, (by repeat (first | exact kn_nil | refine kn_cons (by rfl) ?_)), (by repeat (first | exact List.Sublist.refl _ | exact List.nil_sublist _ | refine List.Sublist.cons_cons _ ?_ | refine List.Sublist.cons _ ?_ | exact Sbp.refl | exact Sbp.nil | refine Sbp.cons (by repeat (first | exact Rem.head | apply Rem.tail)) ?_ | exact Sbp.app | refine Sbp.skip ?_))⟩
    have hb6p := of_bne_false hb6
    refine RS.off (dj := 47) rfl (.inl (congrArg Value.bool hb6)) (fun _ => rfl) rfl ?_
    refine RS.off (dj := 47) rfl (.inl (congrArg Value.bool hb6)) (fun _ => rfl) rfl ?_
    refine RS.off (dj := 47) rfl (.inl (congrArg Value.bool hb6)) (fun _ => rfl) rfl ?_
    refine RS.q rfl (QO.pickF (by rfl) hb6 (by rfl)) ?_
    refine RS.q rfl (QO.assign) ?_
    refine RS.nil ?_
    refine thenC_n ?_
    refine CS.condF (by rfl) rfl ?_
    refine CS.seq ?_
    refine CS.region ?_
    refine RS.q rfl (QO.fieldAddr fo134_3 (by rfl)) ?_
    refine RS.q rfl (QO.load ty3 (by rfl) (by repeat (first | exact List.Mem.head _ | refine List.Mem.tail _ ?_)) (by rfl)) ?_
    refine RS.q rfl (QO.lss (by rfl) (by rfl)) ?_
    refine RS.q rfl (QO.move) ?_
    refine RS.split (dj := 56) (by rfl) (fun hb28 => ?_) (fun hb28 => ?_)
    · have hb28p := of_decide_eq_true hb28
      refine RS.off (dj := 56) rfl (.inl (congrArg Value.bool hb28)) (fun _ => rfl) rfl ?_
      refine RS.off (dj := 56) rfl (.inl (congrArg Value.bool hb28)) (fun _ => rfl) rfl ?_
      refine RS.off (dj := 56) rfl (.inl (congrArg Value.bool hb28)) (fun _ => rfl) rfl ?_
      refine RS.off (dj := 56) rfl (.inl (congrArg Value.bool hb28)) (fun _ => rfl) rfl ?_
      refine RS.off (dj := 56) rfl (.inl (congrArg Value.bool hb28)) (fun _ => rfl) rfl ?_
      refine RS.q rfl (QO.pickT (by rfl) hb28 (by rfl)) ?_
      refine RS.q rfl (QO.move) ?_
      refine RS.off (dj := 63) rfl (.inl (congrArg Value.bool rfl)) (fun _ => rfl) rfl ?_
      refine RS.off (dj := 63) rfl (.inl (congrArg Value.bool rfl)) (fun _ => rfl) rfl ?_
      refine RS.off (dj := 63) rfl (.inl (congrArg Value.bool rfl)) (fun _ => rfl) rfl ?_
      refine RS.q rfl (QO.pickT (by rfl) rfl (by rfl)) ?_
      refine RS.q rfl (QO.move) ?_
      refine RS.off (dj := 68) rfl (.inl (congrArg Value.bool rfl)) (fun _ => rfl) rfl ?_
      refine RS.off (dj := 68) rfl (.inl (congrArg Value.bool rfl)) (fun _ => rfl) rfl ?_
      refine RS.off (dj := 68) rfl (.inl (congrArg Value.bool rfl)) (fun _ => rfl) rfl ?_
      refine RS.q rfl (QO.pickT (by rfl) rfl (by rfl)) ?_
      refine RS.q rfl (QO.move) ?_
      refine RS.off (dj := 73) rfl (.inl (congrArg Value.bool rfl)) (fun _ => rfl) rfl ?_
      refine RS.off (dj := 73) rfl (.inl (congrArg Value.bool rfl)) (fun _ => rfl) rfl ?_
      refine RS.off (dj := 73) rfl (.inl (congrArg Value.bool rfl)) (fun _ => rfl) rfl ?_
      refine RS.q rfl (QO.pickT (by rfl) rfl (by rfl)) ?_
      refine RS.q rfl (QO.assign) ?_
      refine RS.nil ?_
      refine thenC_n ?_
      refine CS.condT (by rfl) rfl ?_
      refine CS.seq ?_
      refine CS.region ?_
      refine RS.q rfl (QO.assign) ?_
      refine RS.nil ?_
      refine thenC_n ?_
      refine CS.ret ?_
      refine blockC_r ?_
      refine blockC_r ?_
      refine thenC_r ?_
      refine loopQ_r ?_
      refine blockC_r ?_
      refine thenC_r ?_
      refine retQ.mk (H' := []) (.inr rfl) (RVs.tmp (by rfl) RVs.nil) (List.nil_sublist _) ?_
      exact ⟨congrArg iv (edE_at hn hs hlen hz (by omega) (hev.trans (evE1_3 (by assumption) (by omega) (by omega))) (by decide)).symm, rfl⟩
    have hb28p := of_decide_eq_false hb28
    refine RS.on (dj := 56) rfl (congrArg Value.bool hb28) ?_
    refine RS.q rfl (QO.fieldAddr fo134_4 (by rfl)) ?_
    refine RS.on (dj := 56) rfl (congrArg Value.bool hb28) ?_
    refine RS.q rfl (QO.load ty3 (by rfl) (by repeat (first | exact List.Mem.head _ | refine List.Mem.tail _ ?_)) (by rfl)) ?_
    refine RS.on (dj := 56) rfl (congrArg Value.bool hb28) ?_
    refine RS.q rfl (QO.fieldAddr fo134_3 (by rfl)) ?_
    refine RS.on (dj := 56) rfl (congrArg Value.bool hb28) ?_
    refine RS.q rfl (QO.load ty3 (by rfl) (by repeat (first | exact List.Mem.head _ | refine List.Mem.tail _ ?_)) (by rfl)) ?_
    refine RS.on (dj := 56) rfl (congrArg Value.bool hb28) ?_
    refine RS.q rfl (QO.leq (by rfl) (by rfl)) ?_
    refine RS.q rfl (QO.pickF (by rfl) hb28 (by rfl)) ?_
    refine RS.q rfl (QO.move) ?_
    refine RS.split (dj := 63) (by rfl) (fun hb29 => ?_) (fun hb29 => ?_)
    · have hb29p := of_decide_eq_true hb29
      refine RS.off (dj := 63) rfl (.inl (congrArg Value.bool hb29)) (fun _ => rfl) rfl ?_
      refine RS.off (dj := 63) rfl (.inl (congrArg Value.bool hb29)) (fun _ => rfl) rfl ?_
      refine RS.off (dj := 63) rfl (.inl (congrArg Value.bool hb29)) (fun _ => rfl) rfl ?_
      refine RS.q rfl (QO.pickT (by rfl) hb29 (by rfl)) ?_
      refine RS.q rfl (QO.move) ?_
      refine RS.off (dj := 68) rfl (.inl (congrArg Value.bool rfl)) (fun _ => rfl) rfl ?_
      refine RS.off (dj := 68) rfl (.inl (congrArg Value.bool rfl)) (fun _ => rfl) rfl ?_
      refine RS.off (dj := 68) rfl (.inl (congrArg Value.bool rfl)) (fun _ => rfl) rfl ?_
      refine RS.q rfl (QO.pickT (by rfl) rfl (by rfl)) ?_
      refine RS.q rfl (QO.move) ?_
      refine RS.off (dj := 73) rfl (.inl (congrArg Value.bool rfl)) (fun _ => rfl) rfl ?_
      refine RS.off (dj := 73) rfl (.inl (congrArg Value.bool rfl)) (fun _ => rfl) rfl ?_
      refine RS.off (dj := 73) rfl (.inl (congrArg Value.bool rfl)) (fun _ => rfl) rfl ?_
      refine RS.q rfl (QO.pickT (by rfl) rfl (by rfl)) ?_
      refine RS.q rfl (QO.assign) ?_
      refine RS.nil ?_
      refine thenC_n ?_
      refine CS.condT (by rfl) rfl ?_
      refine CS.seq ?_
      refine CS.region ?_
      refine RS.q rfl (QO.assign) ?_
      refine RS.nil ?_
      refine thenC_n ?_
      refine CS.ret ?_
      refine blockC_r ?_
      refine blockC_r ?_
      refine thenC_r ?_
      refine loopQ_r ?_
      refine blockC_r ?_
      refine thenC_r ?_
      refine retQ.mk (H' := []) (.inr rfl) (RVs.tmp (by rfl) RVs.nil) (List.nil_sublist _) ?_
      exact ⟨congrArg iv (edE_at hn hs hlen hz (by omega) (hev.trans (evE1_3 (by assumption) (by omega) (by omega))) (by decide)).symm, rfl⟩
    have hb29p := of_decide_eq_false hb29
    refine RS.on (dj := 63) rfl (congrArg Value.bool hb29) ?_
    refine RS.q rfl (QO.fieldAddr fo134_4 (by rfl)) ?_
    refine RS.on (dj := 63) rfl (congrArg Value.bool hb29) ?_
    refine RS.q rfl (QO.load ty3 (by rfl) (by repeat (first | exact List.Mem.head _ | refine List.Mem.tail _ ?_)) (by rfl)) ?_
    refine RS.on (dj := 63) rfl (congrArg Value.bool hb29) ?_
    refine RS.q rfl (QO.gtr (by rfl) (by rfl)) ?_
    refine RS.q rfl (QO.pickF (by rfl) hb29 (by rfl)) ?_
    refine RS.q rfl (QO.move) ?_
    refine RS.split (dj := 68) (by rfl) (fun hb30 => ?_) (fun hb30 => ?_)
    · have hb30p := of_decide_eq_true hb30
      refine RS.off (dj := 68) rfl (.inl (congrArg Value.bool hb30)) (fun _ => rfl) rfl ?_
      refine RS.off (dj := 68) rfl (.inl (congrArg Value.bool hb30)) (fun _ => rfl) rfl ?_
      refine RS.off (dj := 68) rfl (.inl (congrArg Value.bool hb30)) (fun _ => rfl) rfl ?_
      refine RS.q rfl (QO.pickT (by rfl) hb30 (by rfl)) ?_
      refine RS.q rfl (QO.move) ?_
      refine RS.off (dj := 73) rfl (.inl (congrArg Value.bool rfl)) (fun _ => rfl) rfl ?_
      refine RS.off (dj := 73) rfl (.inl (congrArg Value.bool rfl)) (fun _ => rfl) rfl ?_
      refine RS.off (dj := 73) rfl (.inl (congrArg Value.bool rfl)) (fun _ => rfl) rfl ?_
      refine RS.q rfl (QO.pickT (by rfl) rfl (by rfl)) ?_
      refine RS.q rfl (QO.assign) ?_
      refine RS.nil ?_
      refine thenC_n ?_
      refine CS.condT (by rfl) rfl ?_
      refine CS.seq ?_
      refine CS.region ?_
      refine RS.q rfl (QO.assign) ?_
      refine RS.nil ?_
      refine thenC_n ?_
      refine CS.ret ?_
      refine blockC_r ?_
      refine blockC_r ?_
      refine thenC_r ?_
      refine loopQ_r ?_
      refine blockC_r ?_
      refine thenC_r ?_
      refine retQ.mk (H' := []) (.inr rfl) (RVs.tmp (by rfl) RVs.nil) (List.nil_sublist _) ?_
      exact ⟨congrArg iv (edE_at hn hs hlen hz (by omega) (hev.trans (evE1_3 (by assumption) (by omega) (by omega))) (by decide)).symm, rfl⟩
    have hb30p := of_decide_eq_false hb30
    refine RS.on (dj := 68) rfl (congrArg Value.bool hb30) ?_
    refine RS.q rfl (QO.fieldAddr fo134_5 (by rfl)) ?_
    refine RS.on (dj := 68) rfl (congrArg Value.bool hb30) ?_
    refine RS.q rfl (QO.load ty3 (by rfl) (by repeat (first | exact List.Mem.head _ | refine List.Mem.tail _ ?_)) (by rfl)) ?_
    refine RS.on (dj := 68) rfl (congrArg Value.bool hb30) ?_
    refine RS.q rfl (QO.gtr (by rfl) (by rfl)) ?_
    refine RS.q rfl (QO.pickF (by rfl) hb30 (by rfl)) ?_
    refine RS.q rfl (QO.move) ?_
    refine RS.split (dj := 73) (by rfl) (fun hb31 => ?_) (fun hb31 => ?_)
    · have hb31p := of_decide_eq_true hb31
      refine RS.off (dj := 73) rfl (.inl (congrArg Value.bool hb31)) (fun _ => rfl) rfl ?_
      refine RS.off (dj := 73) rfl (.inl (congrArg Value.bool hb31)) (fun _ => rfl) rfl ?_
      refine RS.off (dj := 73) rfl (.inl (congrArg Value.bool hb31)) (fun _ => rfl) rfl ?_
      refine RS.q rfl (QO.pickT (by rfl) hb31 (by rfl)) ?_
      refine RS.q rfl (QO.assign) ?_
      refine RS.nil ?_
      refine thenC_n ?_
      refine CS.condT (by rfl) rfl ?_
      refine CS.seq ?_
      refine CS.region ?_
      refine RS.q rfl (QO.assign) ?_
      refine RS.nil ?_
      refine thenC_n ?_
      refine CS.ret ?_
      refine blockC_r ?_
      refine blockC_r ?_
      refine thenC_r ?_
      refine loopQ_r ?_
      refine blockC_r ?_
      refine thenC_r ?_
      refine retQ.mk (H' := []) (.inr rfl) (RVs.tmp (by rfl) RVs.nil) (List.nil_sublist _) ?_
      exact ⟨congrArg iv (edE_at hn hs hlen hz (by omega) (hev.trans (evE1_3 (by assumption) (by omega) (by omega))) (by decide)).symm, rfl⟩
    have hb31p := of_decide_eq_false hb31
    refine RS.on (dj := 73) rfl (congrArg Value.bool hb31) ?_
    refine RS.q rfl (QO.fieldAddr fo134_5 (by rfl)) ?_
    refine RS.on (dj := 73) rfl (congrArg Value.bool hb31) ?_
    refine RS.q rfl (QO.load ty3 (by rfl) (by repeat (first | exact List.Mem.head _ | refine List.Mem.tail _ ?_)) (by rfl)) ?_
    refine RS.on (dj := 73) rfl (congrArg Value.bool hb31) ?_
    refine RS.q rfl (QO.lss (by rfl) (by rfl)) ?_
    refine RS.q rfl (QO.pickF (by rfl) hb31 (by rfl)) ?_
    refine RS.q rfl (QO.assign) ?_
    refine RS.nil ?_
    refine thenC_n ?_
    refine CS.cond (by rfl) (fun hb32 => ?_) (fun hb32 => ?_)
    · have hb32p := of_decide_eq_true hb32
      refine CS.seq ?_
      refine CS.region ?_
      refine RS.q rfl (QO.assign) ?_
      refine RS.nil ?_
      refine thenC_n ?_
      refine CS.ret ?_
      refine blockC_r ?_
      refine blockC_r ?_
      refine thenC_r ?_
      refine loopQ_r ?_
      refine blockC_r ?_
      refine thenC_r ?_
      refine retQ.mk (H' := []) (.inr rfl) (RVs.tmp (by rfl) RVs.nil) (List.nil_sublist _) ?_
      exact ⟨congrArg iv (edE_at hn hs hlen hz (by omega) (hev.trans (evE1_3 (by assumption) (by omega) (by omega))) (by decide)).symm, rfl⟩
    have hb32p := of_decide_eq_false hb32
    refine CS.seq ?_
    refine CS.region ?_
    refine RS.q rfl (QO.fieldAddr fo134_5 (by rfl)) ?_
    refine RS.q rfl (QO.load ty3 (by rfl) (by repeat (first | exact List.Mem.head _ | refine List.Mem.tail _ ?_)) (by rfl)) ?_
    refine RS.q rfl (QO.move) ?_
    refine RS.q rfl (QO.lss (by rfl) (by rfl)) ?_
    refine RS.q rfl (QO.assign) ?_
    refine RS.nil ?_
    refine thenC_n ?_
    refine CS.cond (by rfl) (fun hb33 => ?_) (fun hb33 => ?_)
    · have hb33p := of_decide_eq_true hb33
      refine CS.seq ?_
      refine CS.region ?_
      refine RS.q rfl (QO.assign) ?_
      refine RS.nil ?_
      refine thenC_n ?_
      refine CS.ret ?_
      refine blockC_r ?_
      refine blockC_r ?_
      refine thenC_r ?_
      refine loopQ_r ?_
      refine blockC_r ?_
      refine thenC_r ?_
      refine retQ.mk (H' := []) (.inr rfl) (RVs.tmp (by rfl) RVs.nil) (List.nil_sublist _) ?_
      exact ⟨congrArg iv (edE_at hn hs hlen hz (by omega) (hev.trans (evE1_8 (by assumption) (by omega) (by omega) (by omega))) (by decide)).symm, rfl⟩
    have hb33p := of_decide_eq_false hb33
    refine CS.seq ?_
    refine CS.seq ?_
    refine CS.region ?_
    refine RS.q rfl (QO.fieldAddr fo134_1 (by rfl)) ?_
    refine RS.q rfl (QO.load ty3 (by rfl) (by repeat (first | exact List.Mem.head _ | refine List.Mem.tail _ ?_)) (by rfl)) ?_
    refine RS.q rfl (QO.eql (by rfl) (by rfl)) ?_
    refine RS.q rfl (QO.move) ?_
    refine RS.split (dj := 87) (by rfl) (fun hb34 => ?_) (fun hb34 => ?_)
    · have hb34p := eq_of_beq hb34
      refine RS.on (dj := 87) rfl (congrArg Value.bool hb34) ?_
      refine RS.q rfl (QO.fieldAddr fo134_2 (by rfl)) ?_
      refine RS.on (dj := 87) rfl (congrArg Value.bool hb34) ?_
      refine RS.q rfl (QO.load ty3 (by rfl) (by repeat (first | exact List.Mem.head _ | refine List.Mem.tail _ ?_)) (by rfl)) ?_
      refine RS.on (dj := 87) rfl (congrArg Value.bool hb34) ?_
      refine RS.q rfl (QO.neq (by rfl) (by rfl)) ?_
      refine RS.q rfl (QO.pickT (by rfl) hb34 (by rfl)) ?_
      refine RS.q rfl (QO.assign) ?_
      refine RS.nil ?_
      refine thenC_n ?_
      refine CS.cond (by rfl) (fun hb35 => ?_) (fun hb35 => ?_)
      · have hb35p := bne_iff_ne.1 hb35
        refine CS.skip ?_
        refine thenC_n ?_
        refine CS.condT (by rfl) hb35 ?_
        refine CS.seq ?_
        refine CS.region ?_
        refine RS.q rfl (QO.assign) ?_
        refine RS.nil ?_
        refine thenC_n ?_
        refine CS.ret ?_
        refine blockC_r ?_
        refine blockC_r ?_
        refine thenC_r ?_
        refine loopQ_r ?_
        refine blockC_r ?_
        refine thenC_r ?_
        refine retQ.mk (H' := []) (.inr rfl) (RVs.tmp (by rfl) RVs.nil) (List.nil_sublist _) ?_
        exact ⟨congrArg iv (edE_at hn hs hlen hz (by omega) (hev.trans (evE1_12 (by assumption) (by omega) (by omega) (by omega) (by omega))) (by decide)).symm, rfl⟩
      have hb35p := of_bne_false hb35
      refine CS.region ?_
      refine RS.q rfl (QO.fieldAddr fo134_1 (by rfl)) ?_
      refine RS.q rfl (QO.load ty3 (by rfl) (by repeat (first | exact List.Mem.head _ | refine List.Mem.tail _ ?_)) (by rfl)) ?_
      refine RS.q rfl (QO.eql (by rfl) (by rfl)) ?_
      refine RS.q rfl (QO.move) ?_
      refine RS.split (dj := 95) (by rfl) (fun hb36 => ?_) (fun hb36 => ?_)
      · have hb36p := eq_of_beq hb36
        refine RS.on (dj := 95) rfl (congrArg Value.bool hb36) ?_
        refine RS.q rfl (QO.fieldAddr fo134_2 (by rfl)) ?_
        refine RS.on (dj := 95) rfl (congrArg Value.bool hb36) ?_
        refine RS.q rfl (QO.load ty3 (by rfl) (by repeat (first | exact List.Mem.head _ | refine List.Mem.tail _ ?_)) (by rfl)) ?_
        refine RS.on (dj := 95) rfl (congrArg Value.bool hb36) ?_
        refine RS.q rfl (QO.lss (by rfl) (by rfl)) ?_
        refine RS.on (dj := 95) rfl (congrArg Value.bool hb36) ?_
        refine RS.q rfl (QO.move) ?_
        refine RS.split (dj := 99) (by rfl) (fun hb37 => ?_) (fun hb37 => ?_)
        · have hb37p := of_decide_eq_true hb37
          refine RS.off (dj := 99) rfl (.inl (congrArg Value.bool hb37)) (fun _ => rfl) rfl ?_
          refine RS.off (dj := 99) rfl (.inl (congrArg Value.bool hb37)) (fun _ => rfl) rfl ?_
          refine RS.off (dj := 99) rfl (.inl (congrArg Value.bool hb37)) (fun _ => rfl) rfl ?_
          refine RS.off (dj := 99) rfl (.inl (congrArg Value.bool hb37)) (fun _ => rfl) rfl ?_
          refine RS.off (dj := 99) rfl (.inl (congrArg Value.bool hb37)) (fun _ => rfl) rfl ?_
          refine RS.off (dj := 99) rfl (.inl (congrArg Value.bool hb37)) (fun _ => rfl) rfl ?_
          refine RS.off (dj := 99) rfl (.inl (congrArg Value.bool hb37)) (fun _ => rfl) rfl ?_
          refine RS.off (dj := 99) rfl (.inl (congrArg Value.bool hb37)) (fun _ => rfl) rfl ?_
          refine RS.on (dj := 95) rfl (congrArg Value.bool hb36) ?_
          refine RS.q rfl (QO.pickT (by rfl) hb37 (by rfl)) ?_
          refine RS.on (dj := 95) rfl (congrArg Value.bool hb36) ?_
          refine RS.q rfl (QO.move) ?_
          refine RS.off (dj := 109) rfl (.inl (congrArg Value.bool rfl)) (fun _ => rfl) rfl ?_
          refine RS.off (dj := 109) rfl (.inl (congrArg Value.bool rfl)) (fun _ => rfl) rfl ?_
          refine RS.off (dj := 109) rfl (.inl (congrArg Value.bool rfl)) (fun _ => rfl) rfl ?_
          refine RS.on (dj := 95) rfl (congrArg Value.bool hb36) ?_
          refine RS.q rfl (QO.pickT (by rfl) rfl (by rfl)) ?_
          refine RS.on (dj := 95) rfl (congrArg Value.bool hb36) ?_
          refine RS.q rfl (QO.move) ?_
          refine RS.off (dj := 114) rfl (.inl (congrArg Value.bool rfl)) (fun _ => rfl) rfl ?_
          refine RS.off (dj := 114) rfl (.inl (congrArg Value.bool rfl)) (fun _ => rfl) rfl ?_
          refine RS.on (dj := 95) rfl (congrArg Value.bool hb36) ?_
          refine RS.q rfl (QO.pickT (by rfl) rfl (by rfl)) ?_
          refine RS.on (dj := 95) rfl (congrArg Value.bool hb36) ?_
          refine RS.q rfl (QO.move) ?_
          refine RS.off (dj := 118) rfl (.inl (congrArg Value.bool rfl)) (fun _ => rfl) rfl ?_
          refine RS.off (dj := 118) rfl (.inl (congrArg Value.bool rfl)) (fun _ => rfl) rfl ?_
          refine RS.off (dj := 118) rfl (.inl (congrArg Value.bool rfl)) (fun _ => rfl) rfl ?_
          refine RS.off (dj := 118) rfl (.inl (congrArg Value.bool rfl)) (fun _ => rfl) rfl ?_
          refine RS.on (dj := 95) rfl (congrArg Value.bool hb36) ?_
          refine RS.q rfl (QO.pickT (by rfl) rfl (by rfl)) ?_
          refine RS.q rfl (QO.pickT (by rfl) hb36 (by rfl)) ?_
          refine RS.q rfl (QO.assign) ?_
          refine RS.nil ?_
          refine thenC_n ?_
          refine CS.condT (by rfl) rfl ?_
          refine CS.seq ?_
          refine CS.region ?_
          refine RS.q rfl (QO.assign) ?_
          refine RS.nil ?_
          refine thenC_n ?_
          refine CS.ret ?_
          refine blockC_r ?_
          refine blockC_r ?_
          refine thenC_r ?_
          refine loopQ_r ?_
          refine blockC_r ?_
          refine thenC_r ?_
          refine retQ.mk (H' := []) (.inr rfl) (RVs.tmp (by rfl) RVs.nil) (List.nil_sublist _) ?_
          exact ⟨congrArg iv (edE_at hn hs hlen hz (by omega) (hev.trans (evE1_12 (by assumption) (by omega) (by omega) (by omega) (by omega))) (by decide)).symm, rfl⟩
        have hb37p := of_decide_eq_false hb37
        refine RS.on (dj := 99) rfl (congrArg Value.bool hb37) ?_
        refine RS.q rfl (QO.fieldAddr fo134_2 (by rfl)) ?_
        refine RS.on (dj := 99) rfl (congrArg Value.bool hb37) ?_
        refine RS.q rfl (QO.load ty3 (by rfl) (by repeat (first | exact List.Mem.head _ | refine List.Mem.tail _ ?_)) (by rfl)) ?_
        refine RS.on (dj := 99) rfl (congrArg Value.bool hb37) ?_
        refine RS.q rfl (QO.fieldAddr fo134_4 (by rfl)) ?_
        refine RS.on (dj := 99) rfl (congrArg Value.bool hb37) ?_
        refine RS.q rfl (QO.load ty3 (by rfl) (by repeat (first | exact List.Mem.head _ | refine List.Mem.tail _ ?_)) (by rfl)) ?_
        refine RS.on (dj := 99) rfl (congrArg Value.bool hb37) ?_
        refine RS.q rfl (QO.fieldAddr fo134_3 (by rfl)) ?_
        refine RS.on (dj := 99) rfl (congrArg Value.bool hb37) ?_
        refine RS.q rfl (QO.load ty3 (by rfl) (by repeat (first | exact List.Mem.head _ | refine List.Mem.tail _ ?_)) (by rfl)) ?_
        refine RS.on (dj := 99) rfl (congrArg Value.bool hb37) ?_
        refine RS.q rfl (QO.sub (by rfl) (by rfl) (by omega) (by omega)) ?_
        refine RS.on (dj := 99) rfl (congrArg Value.bool hb37) ?_
        refine RS.q rfl (QO.gtr (by rfl) (by rfl)) ?_
        refine RS.on (dj := 95) rfl (congrArg Value.bool hb36) ?_
        refine RS.q rfl (QO.pickF (by rfl) hb37 (by rfl)) ?_
        refine RS.on (dj := 95) rfl (congrArg Value.bool hb36) ?_
        refine RS.q rfl (QO.move) ?_
        refine RS.split (dj := 109) (by rfl) (fun hb38 => ?_) (fun hb38 => ?_)
        · have hb38p := of_decide_eq_true hb38
          refine RS.off (dj := 109) rfl (.inl (congrArg Value.bool hb38)) (fun _ => rfl) rfl ?_
          refine RS.off (dj := 109) rfl (.inl (congrArg Value.bool hb38)) (fun _ => rfl) rfl ?_
          refine RS.off (dj := 109) rfl (.inl (congrArg Value.bool hb38)) (fun _ => rfl) rfl ?_
          refine RS.on (dj := 95) rfl (congrArg Value.bool hb36) ?_
          refine RS.q rfl (QO.pickT (by rfl) hb38 (by rfl)) ?_
          refine RS.on (dj := 95) rfl (congrArg Value.bool hb36) ?_
          refine RS.q rfl (QO.move) ?_
          refine RS.off (dj := 114) rfl (.inl (congrArg Value.bool rfl)) (fun _ => rfl) rfl ?_
          refine RS.off (dj := 114) rfl (.inl (congrArg Value.bool rfl)) (fun _ => rfl) rfl ?_
          refine RS.on (dj := 95) rfl (congrArg Value.bool hb36) ?_
          refine RS.q rfl (QO.pickT (by rfl) rfl (by rfl)) ?_
          refine RS.on (dj := 95) rfl (congrArg Value.bool hb36) ?_
          refine RS.q rfl (QO.move) ?_
          refine RS.off (dj := 118) rfl (.inl (congrArg Value.bool rfl)) (fun _ => rfl) rfl ?_
          refine RS.off (dj := 118) rfl (.inl (congrArg Value.bool rfl)) (fun _ => rfl) rfl ?_
          refine RS.off (dj := 118) rfl (.inl (congrArg Value.bool rfl)) (fun _ => rfl) rfl ?_
          refine RS.off (dj := 118) rfl (.inl (congrArg Value.bool rfl)) (fun _ => rfl) rfl ?_
          refine RS.on (dj := 95) rfl (congrArg Value.bool hb36) ?_
          refine RS.q rfl (QO.pickT (by rfl) rfl (by rfl)) ?_
          refine RS.q rfl (QO.pickT (by rfl) hb36 (by rfl)) ?_
          refine RS.q rfl (QO.assign) ?_
          refine RS.nil ?_
          refine thenC_n ?_
          refine CS.condT (by rfl) rfl ?_
          refine CS.seq ?_
          refine CS.region ?_
          refine RS.q rfl (QO.assign) ?_
          refine RS.nil ?_
          refine thenC_n ?_
          refine CS.ret ?_
          refine blockC_r ?_
          refine blockC_r ?_
          refine thenC_r ?_
          refine loopQ_r ?_
          refine blockC_r ?_
          refine thenC_r ?_
          refine retQ.mk (H' := []) (.inr rfl) (RVs.tmp (by rfl) RVs.nil) (List.nil_sublist _) ?_
          exact ⟨congrArg iv (edE_at hn hs hlen hz (by omega) (hev.trans (evE1_12 (by assumption) (by omega) (by omega) (by omega) (by omega))) (by decide)).symm, rfl⟩
        have hb38p := of_decide_eq_false hb38
        refine RS.on (dj := 109) rfl (congrArg Value.bool hb38) ?_
        refine RS.q rfl (QO.fieldAddr fo134_2 (by rfl)) ?_
        refine RS.on (dj := 109) rfl (congrArg Value.bool hb38) ?_
        refine RS.q rfl (QO.load ty3 (by rfl) (by repeat (first | exact List.Mem.head _ | refine List.Mem.tail _ ?_)) (by rfl)) ?_
        refine RS.on (dj := 109) rfl (congrArg Value.bool hb38) ?_
        refine RS.q rfl (QO.gtr (by rfl) (by rfl)) ?_
        refine RS.on (dj := 95) rfl (congrArg Value.bool hb36) ?_
        refine RS.q rfl (QO.pickF (by rfl) hb38 (by rfl)) ?_
        refine RS.on (dj := 95) rfl (congrArg Value.bool hb36) ?_
        refine RS.q rfl (QO.move) ?_
        refine RS.split (dj := 114) (by rfl) (fun hb39 => ?_) (fun hb39 => ?_)
        · have hb39p := of_decide_eq_true hb39
          refine RS.off (dj := 114) rfl (.inl (congrArg Value.bool hb39)) (fun _ => rfl) rfl ?_
          refine RS.off (dj := 114) rfl (.inl (congrArg Value.bool hb39)) (fun _ => rfl) rfl ?_
          refine RS.on (dj := 95) rfl (congrArg Value.bool hb36) ?_
          refine RS.q rfl (QO.pickT (by rfl) hb39 (by rfl)) ?_
          refine RS.on (dj := 95) rfl (congrArg Value.bool hb36) ?_
          refine RS.q rfl (QO.move) ?_
          refine RS.off (dj := 118) rfl (.inl (congrArg Value.bool rfl)) (fun _ => rfl) rfl ?_
          refine RS.off (dj := 118) rfl (.inl (congrArg Value.bool rfl)) (fun _ => rfl) rfl ?_
          refine RS.off (dj := 118) rfl (.inl (congrArg Value.bool rfl)) (fun _ => rfl) rfl ?_
          refine RS.off (dj := 118) rfl (.inl (congrArg Value.bool rfl)) (fun _ => rfl) rfl ?_
          refine RS.on (dj := 95) rfl (congrArg Value.bool hb36) ?_
          refine RS.q rfl (QO.pickT (by rfl) rfl (by rfl)) ?_
          refine RS.q rfl (QO.pickT (by rfl) hb36 (by rfl)) ?_
          refine RS.q rfl (QO.assign) ?_
          refine RS.nil ?_
          refine thenC_n ?_
          refine CS.condT (by rfl) rfl ?_
          refine CS.seq ?_
          refine CS.region ?_
          refine RS.q rfl (QO.assign) ?_
          refine RS.nil ?_
          refine thenC_n ?_
          refine CS.ret ?_
          refine blockC_r ?_
          refine blockC_r ?_
          refine thenC_r ?_
          refine loopQ_r ?_
          refine blockC_r ?_
          refine thenC_r ?_
          refine retQ.mk (H' := []) (.inr rfl) (RVs.tmp (by rfl) RVs.nil) (List.nil_sublist _) ?_
          exact ⟨congrArg iv (edE_at hn hs hlen hz (by omega) (hev.trans (evE1_12 (by assumption) (by omega) (by omega) (by omega) (by omega))) (by decide)).symm, rfl⟩
        have hb39p := of_decide_eq_false hb39
        refine RS.on (dj := 114) rfl (congrArg Value.bool hb39) ?_
        refine RS.q rfl (QO.move) ?_
        refine RS.on (dj := 114) rfl (congrArg Value.bool hb39) ?_
        refine RS.q rfl (QO.eql (by rfl) (by rfl)) ?_
        refine RS.on (dj := 95) rfl (congrArg Value.bool hb36) ?_
        refine RS.q rfl (QO.pickF (by rfl) hb39 (by rfl)) ?_
        refine RS.on (dj := 95) rfl (congrArg Value.bool hb36) ?_
        refine RS.q rfl (QO.move) ?_
        refine RS.split (dj := 118) (by rfl) (fun hb40 => ?_) (fun hb40 => ?_)
        · have hb40p := eq_of_beq hb40
          refine RS.off (dj := 118) rfl (.inl (congrArg Value.bool hb40)) (fun _ => rfl) rfl ?_
          refine RS.off (dj := 118) rfl (.inl (congrArg Value.bool hb40)) (fun _ => rfl) rfl ?_
          refine RS.off (dj := 118) rfl (.inl (congrArg Value.bool hb40)) (fun _ => rfl) rfl ?_
          refine RS.off (dj := 118) rfl (.inl (congrArg Value.bool hb40)) (fun _ => rfl) rfl ?_
          refine RS.on (dj := 95) rfl (congrArg Value.bool hb36) ?_
          refine RS.q rfl (QO.pickT (by rfl) hb40 (by rfl)) ?_
          refine RS.q rfl (QO.pickT (by rfl) hb36 (by rfl)) ?_
          refine RS.q rfl (QO.assign) ?_
          refine RS.nil ?_
          refine thenC_n ?_
          refine CS.condT (by rfl) rfl ?_
          refine CS.seq ?_
          refine CS.region ?_
          refine RS.q rfl (QO.assign) ?_
          refine RS.nil ?_
          refine thenC_n ?_
          refine CS.ret ?_
          refine blockC_r ?_
          refine blockC_r ?_
          refine thenC_r ?_
          refine loopQ_r ?_
          refine blockC_r ?_
          refine thenC_r ?_
          refine retQ.mk (H' := []) (.inr rfl) (RVs.tmp (by rfl) RVs.nil) (List.nil_sublist _) ?_
          exact ⟨congrArg iv (edE_at hn hs hlen hz (by omega) (hev.trans (evE1_12 (by assumption) (by omega) (by omega) (by omega) (by omega))) (by decide)).symm, rfl⟩
        have hb40p := ne_of_beq_false hb40
        refine RS.on (dj := 118) rfl (congrArg Value.bool hb40) ?_
        refine RS.q rfl (QO.fieldAddr fo134_5 (by rfl)) ?_
        refine RS.on (dj := 118) rfl (congrArg Value.bool hb40) ?_
        refine RS.q rfl (QO.load ty3 (by rfl) (by repeat (first | exact List.Mem.head _ | refine List.Mem.tail _ ?_)) (by rfl)) ?_
        refine RS.on (dj := 118) rfl (congrArg Value.bool hb40) ?_
        refine RS.q rfl (QO.move) ?_
        refine RS.on (dj := 118) rfl (congrArg Value.bool hb40) ?_
        refine RS.q rfl (QO.neq (by rfl) (by rfl)) ?_
        refine RS.on (dj := 95) rfl (congrArg Value.bool hb36) ?_
        refine RS.q rfl (QO.pickF (by rfl) hb40 (by rfl)) ?_
        refine RS.q rfl (QO.pickT (by rfl) hb36 (by rfl)) ?_
        refine RS.q rfl (QO.assign) ?_
        refine RS.nil ?_
        refine thenC_n ?_
        refine CS.cond (by rfl) (fun hb41 => ?_) (fun hb41 => ?_)
        · have hb41p := bne_iff_ne.1 hb41
          refine CS.seq ?_
          refine CS.region ?_
          refine RS.q rfl (QO.assign) ?_
          refine RS.nil ?_
          refine thenC_n ?_
          refine CS.ret ?_
          refine blockC_r ?_
          refine blockC_r ?_
          refine thenC_r ?_
          refine loopQ_r ?_
          refine blockC_r ?_
          refine thenC_r ?_
          refine retQ.mk (H' := []) (.inr rfl) (RVs.tmp (by rfl) RVs.nil) (List.nil_sublist _) ?_
          exact ⟨congrArg iv (edE_at hn hs hlen hz (by omega) (hev.trans (evE1_12 (by assumption) (by omega) (by omega) (by omega) (by omega))) (by decide)).symm, rfl⟩
        have hb41p := of_bne_false hb41
        refine CS.skip ?_
        refine blockC_n ?_
        refine blockC_n ?_
        refine thenC_n ?_
        refine CS.region ?_
        refine RS.q rfl (QO.add (by rfl) (by rfl) (by omega) (by omega)) ?_
        refine RS.q rfl (QO.move) ?_
        refine RS.nil ?_
        refine loopQ_n (by intro t ht; repeat (first | with_reducible exact rfl | exact frame_puts ht (frame_mix ht) _ rfl | (refine frame_put rfl ht ?_) | (refine frame_puts ht ?_ _ rfl) | exact frame_mix ht | (refine frame_mix2 rfl ht ?_) | exact rfl)) ?_
        exact ⟨k + 1, ⟨by omega, firstE_go hz (hev.trans (evE1_0 (by assumption) (by omega) (by omega) (by omega) (by omega)))⟩, by omega, (by repeat (first | exact kn_nil | refine kn_cons (by rfl) ?_)), (by repeat (first | exact List.Sublist.refl _ | exact List.nil_sublist _ | refine List.Sublist.cons_cons _ ?_ | refine List.Sublist.cons _ ?_ | exact Sbp.refl | exact Sbp.nil | refine Sbp.cons (by repeat (first | exact Rem.head | apply Rem.tail)) ?_ | exact Sbp.app | refine Sbp.skip ?_))⟩
      have hb36p := ne_of_beq_false hb36
      refine RS.off (dj := 95) rfl (.inl (congrArg Value.bool hb36)) (fun _ => rfl) rfl ?_
      refine RS.off (dj := 95) rfl (.inl (congrArg Value.bool hb36)) (fun _ => rfl) rfl ?_
      refine RS.off (dj := 95) rfl (.inl (congrArg Value.bool hb36)) (fun _ => rfl) rfl ?_
      refine RS.off (dj := 95) rfl (.inl (congrArg Value.bool hb36)) (fun _ => rfl) rfl ?_
      refine RS.off (dj := 99) (c := true) rfl (.inr rfl) (fun h => by cases h) rfl ?_
      refine RS.off (dj := 99) (c := true) rfl (.inr rfl) (fun h => by cases h) rfl ?_
      refine RS.off (dj := 99) (c := true) rfl (.inr rfl) (fun h => by cases h) rfl ?_
      refine RS.off (dj := 99) (c := true) rfl (.inr rfl) (fun h => by cases h) rfl ?_
      refine RS.off (dj := 99) (c := true) rfl (.inr rfl) (fun h => by cases h) rfl ?_
      refine RS.off (dj := 99) (c := true) rfl (.inr rfl) (fun h => by cases h) rfl ?_
      refine RS.off (dj := 99) (c := true) rfl (.inr rfl) (fun h => by cases h) rfl ?_
      refine RS.off (dj := 99) (c := true) rfl (.inr rfl) (fun h => by cases h) rfl ?_
      refine RS.off (dj := 95) rfl (.inl (congrArg Value.bool hb36)) (fun _ => rfl) rfl ?_
      refine RS.off (dj := 95) rfl (.inl (congrArg Value.bool hb36)) (fun _ => rfl) rfl ?_
      refine RS.off (dj := 109) (c := true) rfl (.inr rfl) (fun h => by cases h) rfl ?_
      refine RS.off (dj := 109) (c := true) rfl (.inr rfl) (fun h => by cases h) rfl ?_
      refine RS.off (dj := 109) (c := true) rfl (.inr rfl) (fun h => by cases h) rfl ?_
      refine RS.off (dj := 95) rfl (.inl (congrArg Value.bool hb36)) (fun _ => rfl) rfl ?_
      refine RS.off (dj := 95) rfl (.inl (congrArg Value.bool hb36)) (fun _ => rfl) rfl ?_
      refine RS.off (dj := 114) (c := true) rfl (.inr rfl) (fun h => by cases h) rfl ?_
      refine RS.off (dj := 114) (c := true) rfl (.inr rfl) (fun h => by cases h) rfl ?_
      refine RS.off (dj := 95) rfl (.inl (congrArg Value.bool hb36)) (fun _ => rfl) rfl ?_
      refine RS.off (dj := 95) rfl (.inl (congrArg Value.bool hb36)) (fun _ => rfl) rfl ?_
      refine RS.off (dj := 118) (c := true) rfl (.inr rfl) (fun h => by cases h) rfl ?_
      refine RS.off (dj := 118) (c := true) rfl (.inr rfl) (fun h => by cases h) rfl ?_
      refine RS.off (dj := 118) (c := true) rfl (.inr rfl) (fun h => by cases h) rfl ?_
      refine RS.off (dj := 118) (c := true) rfl (.inr rfl) (fun h => by cases h) rfl ?_
      refine RS.off (dj := 95) rfl (.inl (congrArg Value.bool hb36)) (fun _ => rfl) rfl ?_
      refine RS.q rfl (QO.pickF (by rfl) hb36 (by rfl)) ?_
      refine RS.q rfl (QO.assign) ?_
      refine RS.nil ?_
      refine thenC_n ?_
      refine CS.condF (by rfl) rfl ?_
      refine CS.skip ?_
      refine blockC_n ?_
      refine blockC_n ?_
      refine thenC_n ?_
      refine CS.region ?_
      refine RS.q rfl (QO.add (by rfl) (by rfl) (by omega) (by omega)) ?_
      refine RS.q rfl (QO.move) ?_
      refine RS.nil ?_
      refine loopQ_n (by intro t ht; repeat (first | with_reducible exact rfl | exact frame_puts ht (frame_mix ht) _ rfl | (refine frame_put rfl ht ?_) | (refine frame_puts ht ?_ _ rfl) | exact frame_mix ht | (refine frame_mix2 rfl ht ?_) | exact rfl)) ?_
      exact ⟨k + 1, ⟨by omega, firstE_go hz (hev.trans (evE1_0 (by assumption) (by omega) (by omega) (by omega) (by omega)))⟩, by omega, (by repeat (first | exact kn_nil | refine kn_cons (by rfl) ?_)), (by repeat (first | exact List.Sublist.refl _ | exact List.nil_sublist _ | refine List.Sublist.cons_cons _ ?_ | refine List.Sublist.cons _ ?_ | exact Sbp.refl | exact Sbp.nil | refine Sbp.cons (by repeat (first | exact Rem.head | apply Rem.tail)) ?_ | exact Sbp.app | refine Sbp.skip ?_))⟩
    have hb34p := ne_of_beq_false hb34
    refine RS.off (dj := 87) rfl (.inl (congrArg Value.bool hb34)) (fun _ => rfl) rfl ?_
    refine RS.off (dj := 87) rfl (.inl (congrArg Value.bool hb34)) (fun _ => rfl) rfl ?_
    refine RS.off (dj := 87) rfl (.inl (congrArg Value.bool hb34)) (fun _ => rfl) rfl ?_
    refine RS.q rfl (QO.pickF (by rfl) hb34 (by rfl)) ?_
    refine RS.q rfl (QO.assign) ?_
    refine RS.nil ?_
    refine thenC_n ?_
    refine CS.condF (by rfl) rfl ?_
    refine CS.region ?_
    refine RS.q rfl (QO.fieldAddr fo134_1 (by rfl)) ?_
    refine RS.q rfl (QO.load ty3 (by rfl) (by repeat (first | exact List.Mem.head _ | refine List.Mem.tail _ ?_)) (by rfl)) ?_
    refine RS.q rfl (QO.eql (by rfl) (by rfl)) ?_
    refine RS.q rfl (QO.move) ?_
    refine RS.split (dj := 95) (by rfl) (fun hb42 => ?_) (fun hb42 => ?_)
    · have hb42p := eq_of_beq hb42
      refine RS.on (dj := 95) rfl (congrArg Value.bool hb42) ?_
      refine RS.q rfl (QO.fieldAddr fo134_2 (by rfl)) ?_
      refine RS.on (dj := 95) rfl (congrArg Value.bool hb42) ?_
      refine RS.q rfl (QO.load ty3 (by rfl) (by repeat (first | exact List.Mem.head _ | refine List.Mem.tail _ ?_)) (by rfl)) ?_
      refine RS.on (dj := 95) rfl (congrArg Value.bool hb42) ?_
      refine RS.q rfl (QO.lss (by rfl) (by rfl)) ?_
      refine RS.on (dj := 95) rfl (congrArg Value.bool hb42) ?_
      refine RS.q rfl (QO.move) ?_
      refine RS.split (dj := 99) (by rfl) (fun hb43 => ?_) (fun hb43 => ?_)
      · have hb43p := of_decide_eq_true hb43
        refine RS.off (dj := 99) rfl (.inl (congrArg Value.bool hb43)) (fun _ => rfl) rfl ?_
        refine RS.off (dj := 99) rfl (.inl (congrArg Value.bool hb43)) (fun _ => rfl) rfl ?_
        refine RS.off (dj := 99) rfl (.inl (congrArg Value.bool hb43)) (fun _ => rfl) rfl ?_
        refine RS.off (dj := 99) rfl (.inl (congrArg Value.bool hb43)) (fun _ => rfl) rfl ?_
        refine RS.off (dj := 99) rfl (.inl (congrArg Value.bool hb43)) (fun _ => rfl) rfl ?_
        refine RS.off (dj := 99) rfl (.inl (congrArg Value.bool hb43)) (fun _ => rfl) rfl ?_
        refine RS.off (dj := 99) rfl (.inl (congrArg Value.bool hb43)) (fun _ => rfl) rfl ?_
        refine RS.off (dj := 99) rfl (.inl (congrArg Value.bool hb43)) (fun _ => rfl) rfl ?_
        refine RS.on (dj := 95) rfl (congrArg Value.bool hb42) ?_
        refine RS.q rfl (QO.pickT (by rfl) hb43 (by rfl)) ?_
        refine RS.on (dj := 95) rfl (congrArg Value.bool hb42) ?_
        refine RS.q rfl (QO.move) ?_
        refine RS.off (dj := 109) rfl (.inl (congrArg Value.bool rfl)) (fun _ => rfl) rfl ?_
        refine RS.off (dj := 109) rfl (.inl (congrArg Value.bool rfl)) (fun _ => rfl) rfl ?_
        refine RS.off (dj := 109) rfl (.inl (congrArg Value.bool rfl)) (fun _ => rfl) rfl ?_
        refine RS.on (dj := 95) rfl (congrArg Value.bool hb42) ?_
        refine RS.q rfl (QO.pickT (by rfl) rfl (by rfl)) ?_
        refine RS.on (dj := 95) rfl (congrArg Value.bool hb42) ?_
        refine RS.q rfl (QO.move) ?_
        refine RS.off (dj := 114) rfl (.inl (congrArg Value.bool rfl)) (fun _ => rfl) rfl ?_
        refine RS.off (dj := 114) rfl (.inl (congrArg Value.bool rfl)) (fun _ => rfl) rfl ?_
        refine RS.on (dj := 95) rfl (congrArg Value.bool hb42) ?_
        refine RS.q rfl (QO.pickT (by rfl) rfl (by rfl)) ?_
        refine RS.on (dj := 95) rfl (congrArg Value.bool hb42) ?_
        refine RS.q rfl (QO.move) ?_
        refine RS.off (dj := 118) rfl (.inl (congrArg Value.bool rfl)) (fun _ => rfl) rfl ?_
        refine RS.off (dj := 118) rfl (.inl (congrArg Value.bool rfl)) (fun _ => rfl) rfl ?_
        refine RS.off (dj := 118) rfl (.inl (congrArg Value.bool rfl)) (fun _ => rfl) rfl ?_
        refine RS.off (dj := 118) rfl (.inl (congrArg Value.bool rfl)) (fun _ => rfl) rfl ?_
        refine RS.on (dj := 95) rfl (congrArg Value.bool hb42) ?_
        refine RS.q rfl (QO.pickT (by rfl) rfl (by rfl)) ?_
        refine RS.q rfl (QO.pickT (by rfl) hb42 (by rfl)) ?_
        refine RS.q rfl (QO.assign) ?_
        refine RS.nil ?_
        refine thenC_n ?_
        refine CS.condT (by rfl) rfl ?_
        refine CS.seq ?_
        refine CS.region ?_
        refine RS.q rfl (QO.assign) ?_
        refine RS.nil ?_
        refine thenC_n ?_
        refine CS.ret ?_
        refine blockC_r ?_
        refine blockC_r ?_
        refine thenC_r ?_
        refine loopQ_r ?_
        refine blockC_r ?_
        refine thenC_r ?_
        refine retQ.mk (H' := []) (.inr rfl) (RVs.tmp (by rfl) RVs.nil) (List.nil_sublist _) ?_
        exact ⟨congrArg iv (edE_at hn hs hlen hz (by omega) (hev.trans (evE1_12 (by assumption) (by omega) (by omega) (by omega) (by omega))) (by decide)).symm, rfl⟩
      have hb43p := of_decide_eq_false hb43
      refine RS.on (dj := 99) rfl (congrArg Value.bool hb43) ?_
      refine RS.q rfl (QO.fieldAddr fo134_2 (by rfl)) ?_
      refine RS.on (dj := 99) rfl (congrArg Value.bool hb43) ?_
      refine RS.q rfl (QO.load ty3 (by rfl) (by repeat (first | exact List.Mem.head _ | refine List.Mem.tail _ ?_)) (by rfl)) ?_
      refine RS.on (dj := 99) rfl (congrArg Value.bool hb43) ?_
      refine RS.q rfl (QO.fieldAddr fo134_4 (by rfl)) ?_
      refine RS.on (dj := 99) rfl (congrArg Value.bool hb43) ?_
      refine RS.q rfl (QO.load ty3 (by rfl) (by repeat (first | exact List.Mem.head _ | refine List.Mem.tail _ ?_)) (by rfl)) ?_
      refine RS.on (dj := 99) rfl (congrArg Value.bool hb43) ?_
      refine RS.q rfl (QO.fieldAddr fo134_3 (by rfl)) ?_
      refine RS.on (dj := 99) rfl (congrArg Value.bool hb43) ?_
      refine RS.q rfl (QO.load ty3 (by rfl) (by repeat (first | exact List.Mem.head _ | refine List.Mem.tail _ ?_)) (by rfl)) ?_
      refine RS.on (dj := 99) rfl (congrArg Value.bool hb43) ?_
      refine RS.q rfl (QO.sub (by rfl) (by rfl) (by omega) (by omega)) ?_
      refine RS.on (dj := 99) rfl (congrArg Value.bool hb43) ?_
      refine RS.q rfl (QO.gtr (by rfl) (by rfl)) ?_
      refine RS.on (dj := 95) rfl (congrArg Value.bool hb42) ?_
      refine RS.q rfl (QO.pickF (by rfl) hb43 (by rfl)) ?_
      refine RS.on (dj := 95) rfl (congrArg Value.bool hb42) ?_
      refine RS.q rfl (QO.move) ?_
      refine RS.split (dj := 109) (by rfl) (fun hb44 => ?_) (fun hb44 => ?_)
      · have hb44p := of_decide_eq_true hb44
        refine RS.off (dj := 109) rfl (.inl (congrArg Value.bool hb44)) (fun _ => rfl) rfl ?_
        refine RS.off (dj := 109) rfl (.inl (congrArg Value.bool hb44)) (fun _ => rfl) rfl ?_
        refine RS.off (dj := 109) rfl (.inl (congrArg Value.bool hb44)) (fun _ => rfl) rfl ?_
        refine RS.on (dj := 95) rfl (congrArg Value.bool hb42) ?_
        refine RS.q rfl (QO.pickT (by rfl) hb44 (by rfl)) ?_
        refine RS.on (dj := 95) rfl (congrArg Value.bool hb42) ?_
        refine RS.q rfl (QO.move) ?_
        refine RS.off (dj := 114) rfl (.inl (congrArg Value.bool rfl)) (fun _ => rfl) rfl ?_
        refine RS.off (dj := 114) rfl (.inl (congrArg Value.bool rfl)) (fun _ => rfl) rfl ?_
        refine RS.on (dj := 95) rfl (congrArg Value.bool hb42) ?_
        refine RS.q rfl (QO.pickT (by rfl) rfl (by rfl)) ?_
        refine RS.on (dj := 95) rfl (congrArg Value.bool hb42) ?_
        refine RS.q rfl (QO.move) ?_
        refine RS.off (dj := 118) rfl (.inl (congrArg Value.bool rfl)) (fun _ => rfl) rfl ?_
        refine RS.off (dj := 118) rfl (.inl (congrArg Value.bool rfl)) (fun _ => rfl) rfl ?_
        refine RS.off (dj := 118) rfl (.inl (congrArg Value.bool rfl)) (fun _ => rfl) rfl ?_
        refine RS.off (dj := 118) rfl (.inl (congrArg Value.bool rfl)) (fun _ => rfl) rfl ?_
        refine RS.on (dj := 95) rfl (congrArg Value.bool hb42) ?_
        refine RS.q rfl (QO.pickT (by rfl) rfl (by rfl)) ?_
        refine RS.q rfl (QO.pickT (by rfl) hb42 (by rfl)) ?_
        refine RS.q rfl (QO.assign) ?_
        refine RS.nil ?_
        refine thenC_n ?_
        refine CS.condT (by rfl) rfl ?_
        refine CS.seq ?_
        refine CS.region ?_
        refine RS.q rfl (QO.assign) ?_
        refine RS.nil ?_
        refine thenC_n ?_
        refine CS.ret ?_
        refine blockC_r ?_
        refine blockC_r ?_
        refine thenC_r ?_
        refine loopQ_r ?_
        refine blockC_r ?_
        refine thenC_r ?_
        refine retQ.mk (H' := []) (.inr rfl) (RVs.tmp (by rfl) RVs.nil) (List.nil_sublist _) ?_
        exact ⟨congrArg iv (edE_at hn hs hlen hz (by omega) (hev.trans (evE1_12 (by assumption) (by omega) (by omega) (by omega) (by omega))) (by decide)).symm, rfl⟩
      have hb44p := of_decide_eq_false hb44
      refine RS.on (dj := 109) rfl (congrArg Value.bool hb44) ?_
      refine RS.q rfl (QO.fieldAddr fo134_2 (by rfl)) ?_
      refine RS.on (dj := 109) rfl (congrArg Value.bool hb44) ?_
      refine RS.q rfl (QO.load ty3 (by rfl) (by repeat (first | exact List.Mem.head _ | refine List.Mem.tail _ ?_)) (by rfl)) ?_
      refine RS.on (dj := 109) rfl (congrArg Value.bool hb44) ?_
      refine RS.q rfl (QO.gtr (by rfl) (by rfl)) ?_
      refine RS.on (dj := 95) rfl (congrArg Value.bool hb42) ?_
      refine RS.q rfl (QO.pickF (by rfl) hb44 (by rfl)) ?_
      refine RS.on (dj := 95) rfl (congrArg Value.bool hb42) ?_
      refine RS.q rfl (QO.move) ?_
      refine RS.split (dj := 114) (by rfl) (fun hb45 => ?_) (fun hb45 => ?_)
      · have hb45p := of_decide_eq_true hb45
        refine RS.off (dj := 114) rfl (.inl (congrArg Value.bool hb45)) (fun _ => rfl) rfl ?_
        refine RS.off (dj := 114) rfl (.inl (congrArg Value.bool hb45)) (fun _ => rfl) rfl ?_
        refine RS.on (dj := 95) rfl (congrArg Value.bool hb42) ?_
        refine RS.q rfl (QO.pickT (by rfl) hb45 (by rfl)) ?_
        refine RS.on (dj := 95) rfl (congrArg Value.bool hb42) ?_
        refine RS.q rfl (QO.move) ?_
        refine RS.off (dj := 118) rfl (.inl (congrArg Value.bool rfl)) (fun _ => rfl) rfl ?_
        refine RS.off (dj := 118) rfl (.inl (congrArg Value.bool rfl)) (fun _ => rfl) rfl ?_
        refine RS.off (dj := 118) rfl (.inl (congrArg Value.bool rfl)) (fun _ => rfl) rfl ?_
        refine RS.off (dj := 118) rfl (.inl (congrArg Value.bool rfl)) (fun _ => rfl) rfl ?_
        refine RS.on (dj := 95) rfl (congrArg Value.bool hb42) ?_
        refine RS.q rfl (QO.pickT (by rfl) rfl (by rfl)) ?_
        refine RS.q rfl (QO.pickT (by rfl) hb42 (by rfl)) ?_
        refine RS.q rfl (QO.assign) ?_
        refine RS.nil ?_
        refine thenC_n ?_
        refine CS.condT (by rfl) rfl ?_
        refine CS.seq ?_
        refine CS.region ?_
        refine RS.q rfl (QO.assign) ?_
        refine RS.nil ?_
        refine thenC_n ?_
        refine CS.ret ?_
        refine blockC_r ?_
        refine blockC_r ?_
        refine thenC_r ?_
        refine loopQ_r ?_
        refine blockC_r ?_
        refine thenC_r ?_
        refine retQ.mk (H' := []) (.inr rfl) (RVs.tmp (by rfl) RVs.nil) (List.nil_sublist _) ?_
        exact ⟨congrArg iv (edE_at hn hs hlen hz (by omega) (hev.trans (evE1_12 (by assumption) (by omega) (by omega) (by omega) (by omega))) (by decide)).symm, rfl⟩
      have hb45p := of_decide_eq_false hb45
      refine RS.on (dj := 114) rfl (congrArg Value.bool hb45) ?_
      refine RS.q rfl (QO.move) ?_
      refine RS.on (dj := 114) rfl (congrArg Value.bool hb45) ?_
      refine RS.q rfl (QO.eql (by rfl) (by rfl)) ?_
      refine RS.on (dj := 95) rfl (congrArg Value.bool hb42) ?_
      refine RS.q rfl (QO.pickF (by rfl) hb45 (by rfl)) ?_
      refine RS.on (dj := 95) rfl (congrArg Value.bool hb42) ?_
      refine RS.q rfl (QO.move) ?_
      refine RS.split (dj := 118) (by rfl) (fun hb46 => ?_) (fun hb46 => ?_)
      · have hb46p := eq_of_beq hb46
        refine RS.off (dj := 118) rfl (.inl (congrArg Value.bool hb46)) (fun _ => rfl) rfl ?_
        refine RS.off (dj := 118) rfl (.inl (congrArg Value.bool hb46)) (fun _ => rfl) rfl ?_
        refine RS.off (dj := 118) rfl (.inl (congrArg Value.bool hb46)) (fun _ => rfl) rfl ?_
        refine RS.off (dj := 118) rfl (.inl (congrArg Value.bool hb46)) (fun _ => rfl) rfl ?_
        refine RS.on (dj := 95) rfl (congrArg Value.bool hb42) ?_
        refine RS.q rfl (QO.pickT (by rfl) hb46 (by rfl)) ?_
        refine RS.q rfl (QO.pickT (by rfl) hb42 (by rfl)) ?_
        refine RS.q rfl (QO.assign) ?_
        refine RS.nil ?_
        refine thenC_n ?_
        refine CS.condT (by rfl) rfl ?_
        refine CS.seq ?_
        refine CS.region ?_
        refine RS.q rfl (QO.assign) ?_
        refine RS.nil ?_
        refine thenC_n ?_
        refine CS.ret ?_
        refine blockC_r ?_
        refine blockC_r ?_
        refine thenC_r ?_
        refine loopQ_r ?_
        refine blockC_r ?_
        refine thenC_r ?_
        refine retQ.mk (H' := []) (.inr rfl) (RVs.tmp (by rfl) RVs.nil) (List.nil_sublist _) ?_
        exact ⟨congrArg iv (edE_at hn hs hlen hz (by omega) (hev.trans (evE1_12 (by assumption) (by omega) (by omega) (by omega) (by omega))) (by decide)).symm, rfl⟩
      have hb46p := ne_of_beq_false hb46
      refine RS.on (dj := 118) rfl (congrArg Value.bool hb46) ?_
      refine RS.q rfl (QO.fieldAddr fo134_5 (by rfl)) ?_
      refine RS.on (dj := 118) rfl (congrArg Value.bool hb46) ?_
      refine RS.q rfl (QO.load ty3 (by rfl) (by repeat (first | exact List.Mem.head _ | refine List.Mem.tail _ ?_)) (by rfl)) ?_
      refine RS.on (dj := 118) rfl (congrArg Value.bool hb46) ?_
      refine RS.q rfl (QO.move) ?_
      refine RS.on (dj := 118) rfl (congrArg Value.bool hb46) ?_
      refine RS.q rfl (QO.neq (by rfl) (by rfl)) ?_
      refine RS.on (dj := 95) rfl (congrArg Value.bool hb42) ?_
      refine RS.q rfl (QO.pickF (by rfl) hb46 (by rfl)) ?_
      refine RS.q rfl (QO.pickT (by rfl) hb42 (by rfl)) ?_
      refine RS.q rfl (QO.assign) ?_
      refine RS.nil ?_
      refine thenC_n ?_
      refine CS.cond (by rfl) (fun hb47 => ?_) (fun hb47 => ?_)
      · have hb47p := bne_iff_ne.1 hb47
        refine CS.seq ?_
        refine CS.region ?_
        refine RS.q rfl (QO.assign) ?_
        refine RS.nil ?_
        refine thenC_n ?_
        refine CS.ret ?_
        refine blockC_r ?_
        refine blockC_r ?_
        refine thenC_r ?_
        refine loopQ_r ?_
        refine blockC_r ?_
        refine thenC_r ?_
        refine retQ.mk (H' := []) (.inr rfl) (RVs.tmp (by rfl) RVs.nil) (List.nil_sublist _) ?_
        exact ⟨congrArg iv (edE_at hn hs hlen hz (by omega) (hev.trans (evE1_12 (by assumption) (by omega) (by omega) (by omega) (by omega))) (by decide)).symm, rfl⟩
      have hb47p := of_bne_false hb47
      refine CS.skip ?_
      refine blockC_n ?_
      refine blockC_n ?_
      refine thenC_n ?_
      refine CS.region ?_
      refine RS.q rfl (QO.add (by rfl) (by rfl) (by omega) (by omega)) ?_
      refine RS.q rfl (QO.move) ?_
      refine RS.nil ?_
      refine loopQ_n (by intro t ht; repeat (first | with_reducible exact rfl | exact frame_puts ht (frame_mix ht) _ rfl | (refine frame_put rfl ht ?_) | (refine frame_puts ht ?_ _ rfl) | exact frame_mix ht | (refine frame_mix2 rfl ht ?_) | exact rfl)) ?_
      exact ⟨k + 1, ⟨by omega, firstE_go hz (hev.trans (evE1_0 (by assumption) (by omega) (by omega) (by omega) (by omega)))⟩, by omega, (by repeat (first | exact kn_nil | refine kn_cons (by rfl) ?_)), (by repeat (first | exact List.Sublist.refl _ | exact List.nil_sublist _ | refine List.Sublist.cons_cons _ ?_ | refine List.Sublist.cons _ ?_ | exact Sbp.refl | exact Sbp.nil | refine Sbp.cons (by repeat (first | exact Rem.head | apply Rem.tail)) ?_ | exact Sbp.app | refine Sbp.skip ?_))⟩
    have hb42p := ne_of_beq_false hb42
    refine RS.off (dj := 95) rfl (.inl (congrArg Value.bool hb42)) (fun _ => rfl) rfl ?_
    refine RS.off (dj := 95) rfl (.inl (congrArg Value.bool hb42)) (fun _ => rfl) rfl ?_
    refine RS.off (dj := 95) rfl (.inl (congrArg Value.bool hb42)) (fun _ => rfl) rfl ?_
    refine RS.off (dj := 95) rfl (.inl (congrArg Value.bool hb42)) (fun _ => rfl) rfl ?_
    refine RS.off (dj := 99) (c := true) rfl (.inr rfl) (fun h => by cases h) rfl ?_
    refine RS.off (dj := 99) (c := true) rfl (.inr rfl) (fun h => by cases h) rfl ?_
    refine RS.off (dj := 99) (c := true) rfl (.inr rfl) (fun h => by cases h) rfl ?_
    refine RS.off (dj := 99) (c := true) rfl (.inr rfl) (fun h => by cases h) rfl ?_
    refine RS.off (dj := 99) (c := true) rfl (.inr rfl) (fun h => by cases h) rfl ?_
    refine RS.off (dj := 99) (c := true) rfl (.inr rfl) (fun h => by cases h) rfl ?_
    refine RS.off (dj := 99) (c := true) rfl (.inr rfl) (fun h => by cases h) rfl ?_
    refine RS.off (dj := 99) (c := true) rfl (.inr rfl) (fun h => by cases h) rfl ?_
    refine RS.off (dj := 95) rfl (.inl (congrArg Value.bool hb42)) (fun _ => rfl) rfl ?_
    refine RS.off (dj := 95) rfl (.inl (congrArg Value.bool hb42)) (fun _ => rfl) rfl ?_
    refine RS.off (dj := 109) (c := true) rfl (.inr rfl) (fun h => by cases h) rfl ?_
    refine RS.off (dj := 109) (c := true) rfl (.inr rfl) (fun h => by cases h) rfl ?_
    refine RS.off (dj := 109) (c := true) rfl (.inr rfl) (fun h => by cases h) rfl ?_
    refine RS.off (dj := 95) rfl (.inl (congrArg Value.bool hb42)) (fun _ => rfl) rfl ?_
    refine RS.off (dj := 95) rfl (.inl (congrArg Value.bool hb42)) (fun _ => rfl) rfl ?_
    refine RS.off (dj := 114) (c := true) rfl (.inr rfl) (fun h => by cases h) rfl ?_
    refine RS.off (dj := 114) (c := true) rfl (.inr rfl) (fun h => by cases h) rfl ?_
    refine RS.off (dj := 95) rfl (.inl (congrArg Value.bool hb42)) (fun _ => rfl) rfl ?_
    refine RS.off (dj := 95) rfl (.inl (congrArg Value.bool hb42)) (fun _ => rfl) rfl ?_
    refine RS.off (dj := 118) (c := true) rfl (.inr rfl) (fun h => by cases h) rfl ?_
    refine RS.off (dj := 118) (c := true) rfl (.inr rfl) (fun h => by cases h) rfl ?_
    refine RS.off (dj := 118) (c := true) rfl (.inr rfl) (fun h => by cases h) rfl ?_
    refine RS.off (dj := 118) (c := true) rfl (.inr rfl) (fun h => by cases h) rfl ?_
    refine RS.off (dj := 95) rfl (.inl (congrArg Value.bool hb42)) (fun _ => rfl) rfl ?_
    refine RS.q rfl (QO.pickF (by rfl) hb42 (by rfl)) ?_
    refine RS.q rfl (QO.assign) ?_
    refine RS.nil ?_
    refine thenC_n ?_
    refine CS.condF (by rfl) rfl ?_
    refine CS.skip ?_
    refine blockC_n ?_
    refine blockC_n ?_
    refine thenC_n ?_
    refine CS.region ?_
    refine RS.q rfl (QO.add (by rfl) (by rfl) (by omega) (by omega)) ?_
    refine RS.q rfl (QO.move) ?_
    refine RS.nil ?_
    refine loopQ_n (by intro t ht; repeat (first | with_reducible exact rfl | exact frame_puts ht (frame_mix ht) _ rfl | (refine frame_put rfl ht ?_) | (refine frame_puts ht ?_ _ rfl) | exact frame_mix ht | (refine frame_mix2 rfl ht ?_) | exact rfl)) ?_
    exact ⟨k + 1, ⟨by omega, firstE_go hz (hev.trans (evE1_0 (by assumption) (by omega) (by omega) (by omega) (by omega)))⟩, by omega, (by repeat (first | exact kn_nil | refine kn_cons (by rfl) ?_)), (by repeat (first | exact List.Sublist.refl _ | exact List.nil_sublist _ | refine List.Sublist.cons_cons _ ?_ | refine List.Sublist.cons _ ?_ | exact Sbp.refl | exact Sbp.nil | refine Sbp.cons (by repeat (first | exact Rem.head | apply Rem.tail)) ?_ | exact Sbp.app | refine Sbp.skip ?_))⟩
  have hb3p := of_decide_eq_false hb3
  refine CS.exit ?_
  refine thenC_x ?_
  refine loopQ_x ?_
  refine blockC_x ?_
  refine thenC_n ?_
  refine CS.seq ?_
  refine CS.region ?_
  refine RS.q rfl (QO.assign) ?_
  refine RS.nil ?_
  refine thenC_n ?_
  refine CS.ret ?_
  refine retQ.mk (H' := []) (.inr rfl) (RVs.tmp (by rfl) RVs.nil) (List.nil_sublist _) ?_
  exact ⟨congrArg iv ((edE_n hn hs hlen).trans ((congrArg (firstE (evErr l)) (show l.length = k by omega)).trans hz)).symm, rfl⟩

end Go.Proofs.YtapcgokcfmklbaaDoor

namespace Go.Proofs.YtapcgokcfmklbaaDoor
open Go Go.RowKit

/-- the value of a number, in units of the least one -/
def fval (b : Nat) : Int := match Ieee.single.read b with
  | .number s m p => Ieee.signed s m (p + 149).toNat
  | _ => 0
theorem signed_shift (s : Bool) (m a k : Nat) : Ieee.signed s m (a + k) = Ieee.signed s m a * 2 ^ k := by
  unfold Ieee.signed
  have h : ((m <<< (a + k) : Nat) : Int) = ((m <<< a : Nat) : Int) * 2 ^ k := by
    rw [Nat.shiftLeft_eq, Nat.shiftLeft_eq, Nat.pow_add, ← Nat.mul_assoc]
    push_cast; rfl
  cases s
  · simpa using h
  · simp only [if_true]
    rw [h, Int.neg_mul]
theorem cmp_self (x : Int) : compare x x = .eq := Int.compare_eq_eq.2 rfl
theorem compare_scale (x y : Int) (k : Nat) : compare (x * 2 ^ k) (y * 2 ^ k) = compare x y := by
  have hk : (0 : Int) < 2 ^ k := Int.pow_pos (by decide)
  rcases Int.lt_trichotomy x y with h | h | h
  · rw [Int.compare_eq_lt.2 h, Int.compare_eq_lt.2 (Int.mul_lt_mul_of_pos_right h hk)]
  · subst h; rw [cmp_self, cmp_self]
  · rw [Int.compare_eq_gt.2 h, Int.compare_eq_gt.2 (Int.mul_lt_mul_of_pos_right h hk)]
theorem order_fval {a b : Nat} (ha : numB a = true) (hb : numB b = true) : Ieee.single.order a b = some (compare (fval a) (fval b)) := by
  unfold numB at ha hb
  split at ha
  · rename_i s m p ea
    split at hb
    · rename_i t n q eb
      have h1 := num_bd ea
      have h2 := num_bd eb
      unfold Ieee.Format.order fval
      rw [ea, eb]
      simp only [Ieee.Datum.order]
      have e1 : (p + 149).toNat = (p - min p q).toNat + (min p q + 149).toNat := by omega
      have e2 : (q + 149).toNat = (q - min p q).toNat + (min p q + 149).toNat := by omega
      rw [e1, e2, signed_shift, signed_shift, compare_scale]
    · cases hb
  · cases ha
/-- the share k/1024 -/
def qk (k : Nat) : Nat := (fop .quo (cvF (k : Int)) 1149239296).getD 0
/-! ### greatest and least of a list -/
/-- the first of the greatest (least) of a row -/
def bestG (op : BinOp) (l : List Nat) : Nat := l.foldl (fun b v => if fcmpB op v b then v else b) (l.getD 0 0)
def maxK (l : List Nat) : Nat := l.foldl max (l.getD 0 0)
def minK (l : List Nat) : Nat := l.foldl min (l.getD 0 0)
/-! ### squares -/
/-- the numbers of the square behind place i of a smaller matte (W' wide) of one that is W wide -/
def sqL (g : Nat → Nat) (side W W' i : Nat) (n : Nat) : List Nat := (List.range n).map fun t => g ((i / W' + t / side) * W + i % W' + t % side)
/-- a matte of numbers: f of column and row -/
def matV (f : Nat → Nat → Nat) (W N : Nat) : List Nat := (List.range N).map fun i => qk (f (i % W) (i / W))
/-- the values of a square -/
def sqF (f : Nat → Nat → Nat) (side x y : Nat) : List Nat := (List.range (side * side)).map fun t => f (x + t % side) (y + t / side)
def mxS (side : Nat) (f : Nat → Nat → Nat) (x y : Nat) : Nat := maxK (sqF f side x y)
def mnS (side : Nat) (f : Nat → Nat → Nat) (x y : Nat) : Nat := minK (sqF f side x y)
/-- gathered from the squares -/
def aroV (G : List Nat → Nat) (xs : List Nat) (side W W' N : Nat) : List Nat := (List.range N).map fun i => cl (G (sqL (fun k => xs.getD k 0) side W W' i (side * side)))
end Go.Proofs.YtapcgokcfmklbaaDoor

namespace Go.Proofs.YtapcgokcfmklbaaDoor
open Go Go.RowKit

/-- n / 2^a to the nearest, ties to even -/
def rnd (n a : Nat) : Nat := n / 2 ^ a + (if 2 ^ a < 2 * (n % 2 ^ a) ∨ (2 ^ a = 2 * (n % 2 ^ a) ∧ n / 2 ^ a % 2 = 1) then 1 else 0)
theorem cut_even (neg : Bool) (n a : Nat) : Ieee.Toward.even.cut neg n a = rnd n a := by
  unfold Ieee.Toward.cut rnd
  simp only [Nat.one_shiftLeft]
  have hl : n < 2 ^ (n.log2 + 1) := Nat.lt_log2_self
  by_cases h : a ≤ n.log2 + 2
  · rw [Nat.min_eq_left h]
    congr 1
    by_cases h1 : 2 ^ a < 2 * (n % 2 ^ a)
    · simp [h1]
    · by_cases h2 : 2 ^ a = 2 * (n % 2 ^ a) ∧ n / 2 ^ a % 2 = 1
      · simp [h2.1.symm, h2.2]
      · have h3 : ¬ (2 ^ a < 2 * (n % 2 ^ a) ∨ (2 ^ a = 2 * (n % 2 ^ a) ∧ n / 2 ^ a % 2 = 1)) := by
          rintro (h | h)
          · exact h1 h
          · exact h2 h
        rw [if_neg h3]
        have h4 : (decide (2 ^ a < 2 * (n % 2 ^ a)) || (2 ^ a == 2 * (n % 2 ^ a) && n / 2 ^ a % 2 == 1)) = false := by
          rw [Bool.or_eq_false_iff, decide_eq_false h1]
          refine ⟨rfl, ?_⟩
          cases hc : (2 ^ a == 2 * (n % 2 ^ a) && n / 2 ^ a % 2 == 1)
          · rfl
          · rw [Bool.and_eq_true, beq_iff_eq, beq_iff_eq] at hc
            exact absurd hc h2
        rw [h4]; rfl
  · rw [Nat.min_eq_right (by omega)]
    have e1 : 2 ^ (n.log2 + 2) = 2 * 2 ^ (n.log2 + 1) := by rw [Nat.pow_succ, Nat.mul_comm]
    have h1 : n < 2 ^ (n.log2 + 2) := by omega
    have h2 : 2 ^ (n.log2 + 2) < 2 ^ a := Nat.pow_lt_pow_right (by decide) (by omega)
    have h3 : n < 2 ^ a := by omega
    rw [Nat.div_eq_of_lt h1, Nat.mod_eq_of_lt h1, Nat.div_eq_of_lt h3, Nat.mod_eq_of_lt h3]
    have h4 : ¬ (2 ^ (n.log2 + 2) < 2 * n) := by omega
    have h5 : ¬ (2 ^ a < 2 * n ∨ (2 ^ a = 2 * n ∧ 0 % 2 = 1)) := by omega
    rw [if_neg h5]
    simp [h4]
theorem rnd_zero (n : Nat) : rnd n 0 = n := by
  unfold rnd
  rw [Nat.pow_zero, Nat.div_one, Nat.mod_one, if_neg (by omega)]; rfl
theorem rnd_up (m a t : Nat) : rnd (m * 2 ^ t) (a + t) = rnd m a := by
  unfold rnd
  have ht : 0 < 2 ^ t := Nat.two_pow_pos t
  have e1 : m * 2 ^ t / 2 ^ (a + t) = m / 2 ^ a := by rw [Nat.pow_add, Nat.mul_div_mul_right _ _ ht]
  have e2 : m * 2 ^ t % 2 ^ (a + t) = (m % 2 ^ a) * 2 ^ t := by rw [Nat.pow_add, Nat.mul_mod_mul_right]
  rw [e1, e2, Nat.pow_add]
  have h1 : 2 ^ a * 2 ^ t < 2 * (m % 2 ^ a * 2 ^ t) ↔ 2 ^ a < 2 * (m % 2 ^ a) := by
    rw [← Nat.mul_assoc]; exact Nat.mul_lt_mul_right ht
  have h2 : 2 ^ a * 2 ^ t = 2 * (m % 2 ^ a * 2 ^ t) ↔ 2 ^ a = 2 * (m % 2 ^ a) := by
    rw [← Nat.mul_assoc]; exact Nat.mul_right_cancel_iff ht ..
  simp only [h1, h2]
theorem rnd_exact (m a : Nat) : rnd (m * 2 ^ a) a = m := by
  have := rnd_up m 0 a
  rw [Nat.zero_add, rnd_zero] at this; exact this
/-- rounding in two steps -/
theorem rnd_rnd {n a G : Nat} (hG : 1 ≤ G) (h : rnd n a % 2 ^ G = 2 ^ (G - 1) → n % 2 ^ a = 0) : rnd (rnd n a) G = rnd n (a + G) := by
  have hA : 0 < 2 ^ a := Nat.two_pow_pos a
  have hg : 0 < 2 ^ G := Nat.two_pow_pos G
  have hg1 : 2 ^ G = 2 * 2 ^ (G - 1) := by rw [← Nat.pow_succ']; congr 1; omega
  by_cases hs : n % 2 ^ a = 0
  · have hn : n = n / 2 ^ a * 2 ^ a := by have := Nat.div_add_mod n (2 ^ a); rw [hs, Nat.add_zero, Nat.mul_comm] at this; exact this.symm
    have hk : rnd n a = n / 2 ^ a := by
      unfold rnd; rw [hs, if_neg (by omega)]; rfl
    rw [hk]
    conv => rhs; rw [hn, Nat.add_comm]
    exact (rnd_up _ _ _).symm
  · have hs' : 0 < n % 2 ^ a := Nat.pos_of_ne_zero hs
    have hsl : n % 2 ^ a < 2 ^ a := Nat.mod_lt _ hA
    have hdm := Nat.div_add_mod n (2 ^ a)
    obtain ⟨N, hN⟩ : ∃ N, n / 2 ^ a = N := ⟨_, rfl⟩
    obtain ⟨s, hsv⟩ : ∃ s, n % 2 ^ a = s := ⟨_, rfl⟩
    rw [hN, hsv] at hdm
    rw [hsv] at hs hs' hsl h
    have hdm2 := Nat.div_add_mod N (2 ^ G)
    have htl : N % 2 ^ G < 2 ^ G := Nat.mod_lt _ hg
    obtain ⟨q, hq⟩ : ∃ q, N / 2 ^ G = q := ⟨_, rfl⟩
    obtain ⟨t, ht⟩ : ∃ t, N % 2 ^ G = t := ⟨_, rfl⟩
    rw [hq, ht] at hdm2
    rw [ht] at htl
    -- the right side
    have e1 : n / 2 ^ (a + G) = q := by rw [Nat.pow_add, ← Nat.div_div_eq_div_mul, hN, hq]
    have e2 : n % 2 ^ (a + G) = t * 2 ^ a + s := by
      have h1 := Nat.div_add_mod n (2 ^ (a + G))
      rw [e1] at h1
      have h2 : 2 ^ (a + G) * q = 2 ^ a * (2 ^ G * q) := by rw [Nat.pow_add, Nat.mul_assoc]
      have h3 : 2 ^ a * N = 2 ^ a * (2 ^ G * q) + t * 2 ^ a := by rw [← hdm2, Nat.mul_add, Nat.mul_comm t]
      omega
    have e3 : 2 ^ (a + G) = 2 * (2 ^ (G - 1) * 2 ^ a) := by rw [Nat.pow_add, hg1]; rw [Nat.mul_comm, Nat.mul_assoc]
    have hR : rnd n (a + G) = q + (if 2 ^ (G - 1) ≤ t then 1 else 0) := by
      unfold rnd
      rw [e1, e2, e3]
      congr 1
      by_cases hc : 2 ^ (G - 1) ≤ t
      · rw [if_pos hc, if_pos]
        left
        have := Nat.mul_le_mul_right (2 ^ a) hc
        omega
      · rw [if_neg hc, if_neg]
        have h4 := Nat.mul_le_mul_right (2 ^ a) (show t + 1 ≤ 2 ^ (G - 1) by omega)
        rw [Nat.add_mul, Nat.one_mul] at h4
        omega
    rw [hR]
    have hK : rnd n a = N ∨ rnd n a = N + 1 := by
      unfold rnd; rw [hN]; split
      · exact .inr rfl
      · exact .inl rfl
    rcases hK with hK | hK
    · rw [hK] at h ⊢
      have hne : t ≠ 2 ^ (G - 1) := fun hh => hs (h (by rw [ht, hh]))
      unfold rnd
      rw [hq, ht, hg1]
      congr 1
      by_cases hc : 2 ^ (G - 1) ≤ t
      · rw [if_pos hc, if_pos (by omega)]
      · rw [if_neg hc, if_neg (by omega)]
    · rw [hK] at h ⊢
      by_cases hlast : t + 1 = 2 ^ G
      · have h5 : N + 1 = (q + 1) * 2 ^ G := by rw [Nat.add_mul, Nat.one_mul, Nat.mul_comm q]; omega
        rw [h5, rnd_exact, if_pos (by omega)]
      · have h6 : (N + 1) / 2 ^ G = q ∧ (N + 1) % 2 ^ G = t + 1 := by
          have h7 : N + 1 = 2 ^ G * q + (t + 1) := by omega
          rw [h7, Nat.mul_add_div hg, Nat.mul_add_mod, Nat.div_eq_of_lt (by omega), Nat.mod_eq_of_lt (by omega)]
          exact ⟨by omega, rfl⟩
        have hne : t + 1 ≠ 2 ^ (G - 1) := fun hh => hs (h (by rw [h6.2, hh]))
        unfold rnd
        rw [h6.1, h6.2, hg1]
        congr 1
        by_cases hc : 2 ^ (G - 1) ≤ t
        · rw [if_pos hc, if_pos (by omega)]
        · rw [if_neg hc, if_neg (by omega)]
theorem log2_up {m t : Nat} (h : m ≠ 0) : (m * 2 ^ t).log2 = m.log2 + t := by
  have h2 : m * 2 ^ t ≠ 0 := Nat.mul_ne_zero h (Nat.ne_of_gt (Nat.two_pow_pos t))
  apply Nat.le_antisymm
  · have h3 : m < 2 ^ (m.log2 + 1) := Nat.lt_log2_self
    have h4 : m * 2 ^ t < 2 ^ (m.log2 + t + 1) := by
      have := Nat.mul_lt_mul_of_pos_right h3 (Nat.two_pow_pos t)
      rw [← Nat.pow_add] at this
      rw [show m.log2 + t + 1 = m.log2 + 1 + t by omega]; exact this
    exact Nat.le_of_lt_succ ((Nat.log2_lt h2).2 h4)
  · rw [Nat.le_log2 h2, Nat.pow_add]
    exact Nat.mul_le_mul_right _ (Nat.log2_self_le h)
/-- what 'nearest' does, in the words of rnd -/
theorem nearest_rnd (f : Ieee.Format) (neg : Bool) {m : Nat} {p L : Int} (h : m ≠ 0) (hL : max (p + m.log2 - f.fractionBits) f.leastPlace = L) :
    f.nearest neg m p = f.word neg (min ((L - f.leastPlace).toNat * f.binade + rnd (m * 2 ^ (p - L).toNat) (L - p).toNat) f.infRung) := by
  unfold Ieee.Format.nearest
  rw [if_neg h]
  simp only [hL, cut_even, Nat.shiftLeft_eq]
/-- only the value counts -/
theorem nearest_up (f : Ieee.Format) (neg : Bool) {m t : Nat} {p : Int} (h : m ≠ 0) : f.nearest neg (m * 2 ^ t) p = f.nearest neg m (p + t) := by
  have h2 : m * 2 ^ t ≠ 0 := Nat.mul_ne_zero h (Nat.ne_of_gt (Nat.two_pow_pos t))
  obtain ⟨L, hL⟩ : ∃ L, max (p + t + m.log2 - f.fractionBits) f.leastPlace = L := ⟨_, rfl⟩
  rw [nearest_rnd f neg h hL, nearest_rnd f neg h2 (L := L) (by rw [log2_up h, ← hL]; congr 1; omega)]
  congr 3
  by_cases h3 : L ≤ p
  · have e1 : (L - p).toNat = 0 := by omega
    have e2 : (L - (p + t)).toNat = 0 := by omega
    rw [e1, e2, rnd_zero, rnd_zero, Nat.mul_assoc, ← Nat.pow_add]
    congr 2; omega
  · by_cases h4 : L ≤ p + t
    · have e1 : (p - L).toNat = 0 := by omega
      have e2 : (L - (p + t)).toNat = 0 := by omega
      have e3 : t = (p + t - L).toNat + (L - p).toNat := by omega
      rw [e1, e2, rnd_zero, Nat.pow_zero, Nat.mul_one]
      conv => lhs; rw [e3, Nat.pow_add, ← Nat.mul_assoc]
      rw [rnd_exact]
    · have e1 : (p - L).toNat = 0 := by omega
      have e2 : (p + t - L).toNat = 0 := by omega
      have e3 : (L - p).toNat = (L - (p + t)).toNat + t := by omega
      rw [e1, e2, Nat.pow_zero, Nat.mul_one, Nat.mul_one, e3, rnd_up]
theorem rnd_bd {m k : Nat} (h : m ≠ 0) (hk : k ≤ m.log2) : 2 ^ (m.log2 - k) ≤ rnd m k ∧ rnd m k ≤ 2 ^ (m.log2 - k + 1) := by
  have h1 := Nat.log2_self_le h
  have h2 : m < 2 ^ (m.log2 + 1) := Nat.lt_log2_self
  have hp := Nat.two_pow_pos k
  have e1 : 2 ^ m.log2 = 2 ^ (m.log2 - k) * 2 ^ k := by rw [← Nat.pow_add]; congr 1; omega
  have e2 : 2 ^ (m.log2 + 1) = 2 ^ (m.log2 - k + 1) * 2 ^ k := by rw [← Nat.pow_add]; congr 1; omega
  have h3 : 2 ^ (m.log2 - k) ≤ m / 2 ^ k := by rw [Nat.le_div_iff_mul_le hp, ← e1]; exact h1
  have h4 : m / 2 ^ k < 2 ^ (m.log2 - k + 1) := by rw [Nat.div_lt_iff_lt_mul hp, ← e2]; exact h2
  unfold rnd
  split <;> omega
/-- Rounded to 64 bits and then to 32 bits: as rounded at once. -/
theorem dbl_round (neg : Bool) {m : Nat} {p : Int} (h : m ≠ 0) (hlo : -1022 ≤ p + m.log2) (hhi : p + m.log2 ≤ 1000)
    (H : 52 < m.log2 → ∀ G : Nat, (G : Int) = max (p + m.log2 - 23) (-149) - (p + m.log2 - 52) → rnd m (m.log2 - 52) % 2 ^ G = 2 ^ (G - 1) → m % 2 ^ (m.log2 - 52) = 0) :
    ∃ m' p', Ieee.double.read (Ieee.double.nearest neg m p) = .number neg m' p' ∧ m' ≠ 0 ∧ Ieee.single.nearest neg m' p' = Ieee.single.nearest neg m p := by
  obtain ⟨E, hE⟩ : ∃ E, p + m.log2 = E := ⟨_, rfl⟩
  have f1 : Ieee.double.fractionBits = 52 := rfl
  have f2 : Ieee.double.leastPlace = -1074 := by decide
  have f3 : Ieee.double.binade = 4503599627370496 := by decide
  have f4 : Ieee.double.infRung = 9218868437227405312 := by decide
  have f5 : Ieee.double.signWeight = 9223372036854775808 := by decide
  have g1 : Ieee.single.fractionBits = 23 := rfl
  have g2 : Ieee.single.leastPlace = -149 := by decide
  have g3 : Ieee.single.binade = 8388608 := by decide
  have hD : max (p + m.log2 - Ieee.double.fractionBits) Ieee.double.leastPlace = E - 52 := by rw [f1, f2, hE]; omega
  obtain ⟨K, hK⟩ : ∃ K, rnd (m * 2 ^ (p - (E - 52)).toNat) (E - 52 - p).toNat = K := ⟨_, rfl⟩
  have hKb : 2 ^ 52 ≤ K ∧ K ≤ 2 ^ 53 := by
    by_cases hc : m.log2 ≤ 52
    · have e1 : (E - 52 - p).toNat = 0 := by omega
      have h2 : m * 2 ^ (p - (E - 52)).toNat ≠ 0 := Nat.mul_ne_zero h (Nat.ne_of_gt (Nat.two_pow_pos _))
      have h3 := log2_up (t := (p - (E - 52)).toNat) h
      have h4 : (m * 2 ^ (p - (E - 52)).toNat).log2 = 52 := by omega
      have h5 := rnd_bd (k := 0) h2 (Nat.zero_le _)
      rw [h4] at h5
      rw [e1] at hK
      rw [hK] at h5
      exact h5
    · have e1 : (p - (E - 52)).toNat = 0 := by omega
      have e2 : (E - 52 - p).toNat = m.log2 - 52 := by omega
      rw [e1, e2, Nat.pow_zero, Nat.mul_one] at hK
      have h5 := rnd_bd (k := m.log2 - 52) h (by omega)
      rw [hK, show m.log2 - (m.log2 - 52) = 52 by omega] at h5
      exact h5
  have hnear := nearest_rnd Ieee.double neg h hD
  rw [hK, f2, f3, f4] at hnear
  have hr : (E - 52 - -1074).toNat * 4503599627370496 + K < 9218868437227405312 := by omega
  rw [Nat.min_eq_left (by omega)] at hnear
  -- it is read as K at E - 52
  have hread : ∃ m' p', Ieee.double.read (Ieee.double.nearest neg m p) = .number neg m' p' ∧ m' ≠ 0 ∧ (m' = K ∧ p' = E - 52 ∨ K = 2 ^ 53 ∧ m' = 2 ^ 52 ∧ p' = E - 51) := by
    rw [hnear]
    obtain ⟨R, hR⟩ : ∃ R, (E - 52 - -1074).toNat * 4503599627370496 + K = R := ⟨_, rfl⟩
    rw [hR] at hr ⊢
    have hw1 : (Ieee.double.word neg R / 9223372036854775808 % 2 == 1) = neg := by
      unfold Ieee.Format.word
      rw [f5]
      cases neg
      · simp only [Bool.false_eq_true, if_false]
        rw [Nat.div_eq_of_lt (by omega)]; rfl
      · simp only [if_true]
        rw [show (9223372036854775808 + R) / 9223372036854775808 = 1 by omega]; rfl
    have hw2 : Ieee.double.word neg R % 9223372036854775808 = R := by
      unfold Ieee.Format.word
      rw [f5]
      cases neg
      · simp only [Bool.false_eq_true, if_false]; omega
      · simp only [if_true]; omega
    unfold Ieee.Format.read
    simp only [f2, f3, f4, f5]
    rw [hw1, hw2]
    obtain ⟨u, hu⟩ : ∃ u : Nat, (E - 52 - -1074).toNat = u := ⟨_, rfl⟩
    rw [hu] at hR
    have hEu : (u : Int) = E - 52 + 1074 := by omega
    rw [if_neg (show ¬ R < 4503599627370496 by omega), if_pos (by omega)]
    by_cases hc : K = 2 ^ 53
    · refine ⟨_, _, rfl, by omega, .inr ⟨hc, by omega, by omega⟩⟩
    · have : K < 2 ^ 53 := by omega
      refine ⟨_, _, rfl, by omega, .inl ⟨by omega, by omega⟩⟩
  obtain ⟨m', p', h1, h2, h3⟩ := hread
  refine ⟨m', p', h1, h2, ?_⟩
  have hK0 : K ≠ 0 := by omega
  have h4 : Ieee.single.nearest neg m' p' = Ieee.single.nearest neg K (E - 52) := by
    rcases h3 with ⟨rfl, rfl⟩ | ⟨e1, rfl, rfl⟩
    · rfl
    · have := nearest_up Ieee.single neg (m := 2 ^ 52) (t := 1) (p := E - 52) (by decide)
      rw [e1, show (2 : Nat) ^ 53 = 2 ^ 52 * 2 ^ 1 by decide, this]
      congr 1; omega
  rw [h4]
  by_cases hc : m.log2 ≤ 52
  · have e1 : (E - 52 - p).toNat = 0 := by omega
    rw [e1, rnd_zero] at hK
    rw [← hK, nearest_up Ieee.single neg h]
    congr 1; omega
  · have e1 : (p - (E - 52)).toNat = 0 := by omega
    have e2 : (E - 52 - p).toNat = m.log2 - 52 := by omega
    rw [e1, e2, Nat.pow_zero, Nat.mul_one] at hK
    obtain ⟨L, hL⟩ : ∃ L : Int, max (E - 23) (-149) = L := ⟨_, rfl⟩
    obtain ⟨G, hG⟩ : ∃ G : Nat, (G : Int) = L - (E - 52) := ⟨(L - (E - 52)).toNat, by omega⟩
    have hG29 : 29 ≤ G := by omega
    have hH := H (by omega) G (by rw [hE, hL]; omega)
    have hrr := rnd_rnd (n := m) (a := m.log2 - 52) (G := G) (by omega) hH
    rw [hK] at hrr
    have hS : Ieee.single.nearest neg m p = Ieee.single.word neg (min ((L + 149).toNat * 8388608 + rnd K G) Ieee.single.infRung) := by
      rw [nearest_rnd Ieee.single neg h (L := L) (by rw [g1, g2, hE]; exact hL), g2, g3]
      have e3 : (p - L).toNat = 0 := by omega
      have e4 : (L - p).toNat = m.log2 - 52 + G := by omega
      rw [e3, e4, Nat.pow_zero, Nat.mul_one, hrr]
      congr 4
    rw [hS]
    by_cases hK53 : K = 2 ^ 53
    · have hl : K.log2 = 53 := by rw [hK53]; decide
      by_cases hE2 : E - 22 ≤ -149
      · rw [nearest_rnd Ieee.single neg hK0 (L := L) (by rw [g1, g2, hl]; omega), g2, g3]
        have e3 : (E - 52 - L).toNat = 0 := by omega
        have e4 : (L - (E - 52)).toNat = G := by omega
        rw [e3, e4, Nat.pow_zero, Nat.mul_one]
        congr 4
      · rw [nearest_rnd Ieee.single neg hK0 (L := L + 1) (by rw [g1, g2, hl]; omega), g2, g3]
        have e3 : (E - 52 - (L + 1)).toNat = 0 := by omega
        have e4 : (L + 1 - (E - 52)).toNat = 30 := by omega
        have e5 : G = 29 := by omega
        rw [e3, e4, Nat.pow_zero, Nat.mul_one, e5, hK53]
        have e6 : rnd (2 ^ 53) 30 = 8388608 := by decide +kernel
        have e7 : rnd (2 ^ 53) 29 = 16777216 := by decide +kernel
        rw [e6, e7]
        have e8 : (L + 1 - -149).toNat * 8388608 + 8388608 = (L + 149).toNat * 8388608 + 16777216 := by omega
        rw [e8]
    · have hl : K.log2 = 52 := by
        apply Nat.le_antisymm
        · exact Nat.le_of_lt_succ ((Nat.log2_lt hK0).2 (by omega))
        · exact (Nat.le_log2 hK0).2 hKb.1
      rw [nearest_rnd Ieee.single neg hK0 (L := L) (by rw [g1, g2, hl]; omega), g2, g3]
      have e3 : (E - 52 - L).toNat = 0 := by omega
      have e4 : (L - (E - 52)).toNat = G := by omega
      rw [e3, e4, Nat.pow_zero, Nat.mul_one]
      congr 4
end Go.Proofs.YtapcgokcfmklbaaDoor

namespace Go.Proofs.YtapcgokcfmklbaaDoor
open Go Go.RowKit

/-- a quotient's digits, and one more that tells whether anything is left over -/
def stk (N n : Nat) : Nat := 2 * (N / n) + (if N % n = 0 then 0 else 1)
/-- N / (n * 2^(a-1)) to the nearest, ties to even -/
def RR (N n a : Nat) : Nat := N / (n * 2 ^ (a - 1)) + (if n * 2 ^ (a - 1) < 2 * (N % (n * 2 ^ (a - 1))) ∨ (n * 2 ^ (a - 1) = 2 * (N % (n * 2 ^ (a - 1))) ∧ N / (n * 2 ^ (a - 1)) % 2 = 1) then 1 else 0)
theorem stk_rnd {N n a : Nat} (hn : 0 < n) (ha : 2 ≤ a) : rnd (stk N n) a = RR N n a := by
  obtain ⟨b, rfl⟩ : ∃ b, a = b + 2 := ⟨a - 2, by omega⟩
  have hP : 2 ^ (b + 1) = 2 * 2 ^ b := by rw [Nat.pow_succ, Nat.mul_comm]
  have hP2 : 2 ^ (b + 2) = 2 * 2 ^ (b + 1) := by rw [Nat.pow_succ, Nat.mul_comm]
  have hb : 0 < 2 ^ b := Nat.two_pow_pos b
  obtain ⟨Q, hQ⟩ : ∃ Q, N / n = Q := ⟨_, rfl⟩
  obtain ⟨ρ, hρ⟩ : ∃ ρ, N % n = ρ := ⟨_, rfl⟩
  have hρn : ρ < n := by rw [← hρ]; exact Nat.mod_lt _ hn
  have hN : N = n * Q + ρ := by rw [← hQ, ← hρ]; exact (Nat.div_add_mod N n).symm
  obtain ⟨q, hq⟩ : ∃ q, Q / 2 ^ (b + 1) = q := ⟨_, rfl⟩
  obtain ⟨T, hT⟩ : ∃ T, Q % 2 ^ (b + 1) = T := ⟨_, rfl⟩
  have hTl : T < 2 ^ (b + 1) := by rw [← hT]; exact Nat.mod_lt _ (Nat.two_pow_pos _)
  have hQe : Q = 2 ^ (b + 1) * q + T := by rw [← hq, ← hT]; exact (Nat.div_add_mod Q _).symm
  obtain ⟨s, hs⟩ : ∃ s, (if N % n = 0 then 0 else 1 : Nat) = s := ⟨_, rfl⟩
  have hs1 : s ≤ 1 := by rw [← hs]; split <;> omega
  have hst : stk N n = 2 * Q + s := by unfold stk; rw [hQ, hs]
  -- the left side
  have e1 : (2 * Q + s) / 2 ^ (b + 2) = q := by
    rw [hP2, ← Nat.div_div_eq_div_mul, show (2 * Q + s) / 2 = Q by omega, hq]
  have e2 : (2 * Q + s) % 2 ^ (b + 2) = 2 * T + s := by
    have h1 := Nat.div_add_mod (2 * Q + s) (2 ^ (b + 2))
    rw [e1, hP2] at h1
    rw [hP2]
    have h2 : 2 * 2 ^ (b + 1) * q = 2 * (2 ^ (b + 1) * q) := Nat.mul_assoc ..
    omega
  -- the right side
  have hM : n * 2 ^ (b + 2 - 1) = n * 2 ^ (b + 1) := by congr 2
  have e3 : N / (n * 2 ^ (b + 1)) = q := by rw [← Nat.div_div_eq_div_mul, hQ, hq]
  have e4 : N % (n * 2 ^ (b + 1)) = n * T + ρ := by
    have h1 := Nat.div_add_mod N (n * 2 ^ (b + 1))
    rw [e3] at h1
    have h2 : n * 2 ^ (b + 1) * q + n * T = n * Q := by rw [hQe, Nat.mul_add, Nat.mul_assoc]
    omega
  unfold rnd RR
  rw [hst, e1, e2, hM, e3, e4, hP2]
  congr 1
  have key : (2 * 2 ^ (b + 1) < 2 * (2 * T + s) ↔ n * 2 ^ (b + 1) < 2 * (n * T + ρ)) ∧ (2 * 2 ^ (b + 1) = 2 * (2 * T + s) ↔ n * 2 ^ (b + 1) = 2 * (n * T + ρ)) := by
    have hmul : 2 * (n * T) = n * (2 * T) := by rw [Nat.mul_left_comm]
    by_cases h0 : ρ = 0
    · have hs0 : s = 0 := by rw [← hs, hρ, h0]; rfl
      subst h0 hs0
      simp only [Nat.add_zero]
      rw [hmul]
      constructor
      · rw [Nat.mul_lt_mul_left hn]; omega
      · rw [Nat.mul_right_inj (Nat.ne_of_gt hn)]; omega
    · have hs1' : s = 1 := by rw [← hs, hρ, if_neg h0]
      subst hs1'
      by_cases hc : 2 ^ (b + 1) ≤ 2 * T
      · have h3 := Nat.mul_le_mul_left n hc
        rw [← hmul] at h3
        exact ⟨by constructor <;> intro _ <;> omega, by constructor <;> intro _ <;> omega⟩
      · have h3 := Nat.mul_le_mul_left n (show 2 * T + 2 ≤ 2 ^ (b + 1) by omega)
        rw [Nat.mul_add, ← hmul] at h3
        exact ⟨by constructor <;> intro _ <;> omega, by constructor <;> intro _ <;> omega⟩
  simp only [key.1, key.2]
theorem RR_up (N n a k : Nat) (ha : 1 ≤ a) : RR (N * 2 ^ k) n (a + k) = RR N n a := by
  unfold RR
  have hk : 0 < 2 ^ k := Nat.two_pow_pos k
  have hM : n * 2 ^ (a + k - 1) = n * 2 ^ (a - 1) * 2 ^ k := by rw [Nat.mul_assoc, ← Nat.pow_add]; congr 2; omega
  rw [hM, Nat.mul_div_mul_right _ _ hk, Nat.mul_mod_mul_right]
  have h1 : n * 2 ^ (a - 1) * 2 ^ k < 2 * (N % (n * 2 ^ (a - 1)) * 2 ^ k) ↔ n * 2 ^ (a - 1) < 2 * (N % (n * 2 ^ (a - 1))) := by
    rw [← Nat.mul_assoc 2]; exact Nat.mul_lt_mul_right hk
  have h2 : n * 2 ^ (a - 1) * 2 ^ k = 2 * (N % (n * 2 ^ (a - 1)) * 2 ^ k) ↔ n * 2 ^ (a - 1) = 2 * (N % (n * 2 ^ (a - 1))) := by
    rw [← Nat.mul_assoc 2]; exact Nat.mul_right_cancel_iff hk ..
  simp only [h1, h2]
theorem RR_near {N n a : Nat} (hn : 0 < n) : 2 * N ≤ 2 * (RR N n a * (n * 2 ^ (a - 1))) + n * 2 ^ (a - 1) ∧ 2 * (RR N n a * (n * 2 ^ (a - 1))) ≤ 2 * N + n * 2 ^ (a - 1) := by
  unfold RR
  have hM0 : 0 < n * 2 ^ (a - 1) := Nat.mul_pos hn (Nat.two_pow_pos _)
  generalize n * 2 ^ (a - 1) = M at *
  have h1 := Nat.div_add_mod N M
  rw [Nat.mul_comm] at h1
  split
  · rename_i hc
    rw [Nat.add_mul, Nat.one_mul]
    have := Nat.mod_lt N hM0
    omega
  · rename_i hc
    have : ¬ M < 2 * (N % M) := fun h => hc (.inl h)
    rw [Nat.add_zero]; omega
theorem stk_log {X n l k : Nat} (hn : 0 < n) (hl : (stk X n).log2 = l) (h0 : 1 ≤ l) : (stk (X * 2 ^ k) n).log2 = l + k ∧ stk (X * 2 ^ k) n ≠ 0 := by
  have hk := Nat.two_pow_pos k
  have hne : stk X n ≠ 0 := fun e => by rw [e] at hl; have : (0 : Nat).log2 = 0 := by decide
                                        omega
  have h1 := Nat.log2_self_le hne
  have h2 : stk X n < 2 ^ ((stk X n).log2 + 1) := Nat.lt_log2_self
  rw [hl] at h1 h2
  have hb : ∀ Y : Nat, 2 * (Y / n) ≤ stk Y n ∧ stk Y n ≤ 2 * (Y / n) + 1 := by intro Y; unfold stk; split <;> omega
  have h3 := hb X
  have h4 := hb (X * 2 ^ k)
  obtain ⟨u, rfl⟩ : ∃ u, l = u + 1 := ⟨l - 1, by omega⟩
  have e1 : 2 ^ (u + 1) = 2 * 2 ^ u := by rw [Nat.pow_succ, Nat.mul_comm]
  have e2 : 2 ^ (u + 1 + 1) = 2 * 2 ^ (u + 1) := by rw [Nat.pow_succ, Nat.mul_comm]
  have q1 : 2 ^ u ≤ X / n := by omega
  have q2 : X / n + 1 ≤ 2 ^ (u + 1) := by omega
  have d1 : X / n * 2 ^ k ≤ X * 2 ^ k / n := by
    rw [Nat.le_div_iff_mul_le hn]
    have := Nat.div_mul_le_self X n
    calc X / n * 2 ^ k * n = X / n * n * 2 ^ k := by rw [Nat.mul_right_comm]
      _ ≤ X * 2 ^ k := Nat.mul_le_mul_right _ this
  have d2 : X * 2 ^ k / n < (X / n + 1) * 2 ^ k := by
    rw [Nat.div_lt_iff_lt_mul hn]
    have h5 := Nat.lt_div_mul_add (a := X) hn
    calc X * 2 ^ k < (X / n * n + n) * 2 ^ k := Nat.mul_lt_mul_of_pos_right h5 hk
      _ = (X / n + 1) * 2 ^ k * n := by rw [Nat.mul_right_comm (X / n + 1), Nat.add_mul (X / n) 1 n, Nat.one_mul]
  have p1 : 2 ^ u * 2 ^ k ≤ X / n * 2 ^ k := Nat.mul_le_mul_right _ q1
  have p2 : (X / n + 1) * 2 ^ k ≤ 2 ^ (u + 1) * 2 ^ k := Nat.mul_le_mul_right _ q2
  rw [← Nat.pow_add] at p1 p2
  have e3 : 2 ^ (u + 1 + k) = 2 * 2 ^ (u + k) := by rw [show u + 1 + k = u + k + 1 by omega, Nat.pow_succ, Nat.mul_comm]
  have e4 : 2 ^ (u + 1 + k + 1) = 2 * 2 ^ (u + 1 + k) := by rw [Nat.pow_succ, Nat.mul_comm]
  have hne2 : stk (X * 2 ^ k) n ≠ 0 := by
    have := Nat.two_pow_pos (u + k)
    omega
  refine ⟨Nat.le_antisymm (Nat.le_of_lt_succ ((Nat.log2_lt hne2).2 ?_)) ((Nat.le_log2 hne2).2 ?_), hne2⟩
  · show _ < 2 ^ (u + 1 + k + 1)
    omega
  · omega
/-- no quotient comes, in 64 bits, to a middle that it is not -/
theorem quo_H {m n e l : Nat} (hn0 : 0 < n) (hn : n < 2 ^ 24) (hx : 31 ≤ e) (hl : (stk (m * 2 ^ e) n).log2 = l) (hl2 : l = 54 ∨ l = 55) (h0 : stk (m * 2 ^ e) n ≠ 0) {G : Nat} (hG : 29 ≤ G)
    (hK : rnd (stk (m * 2 ^ e) n) (l - 52) % 2 ^ G = 2 ^ (G - 1)) : stk (m * 2 ^ e) n % 2 ^ (l - 52) = 0 := by
  obtain ⟨a, ha⟩ : ∃ a, l - 52 = a := ⟨_, rfl⟩
  have ha2 : a = 2 ∨ a = 3 := by omega
  rw [ha] at hK ⊢
  rw [stk_rnd hn0 (by omega)] at hK
  have hnear := RR_near (N := m * 2 ^ e) (a := a) hn0
  obtain ⟨K, hKv⟩ : ∃ K, RR (m * 2 ^ e) n a = K := ⟨_, rfl⟩
  rw [hKv] at hK hnear
  obtain ⟨q, hq⟩ : ∃ q, K = 2 ^ 28 * q := by
    refine ⟨K / 2 ^ 28, ?_⟩
    have h1 := Nat.div_add_mod K (2 ^ 28)
    have h2 : K % 2 ^ 28 = 0 := by
      have d1 : 2 ^ 28 ∣ K % 2 ^ G := by rw [hK]; exact Nat.pow_dvd_pow 2 (by omega)
      have d2 : 2 ^ 28 ∣ K := by
        have h3 := Nat.div_add_mod K (2 ^ G)
        rw [← h3]
        exact Nat.dvd_add (Nat.dvd_trans (Nat.pow_dvd_pow 2 (by omega)) (Nat.dvd_mul_right ..)) d1
      exact Nat.mod_eq_zero_of_dvd d2
    omega
  obtain ⟨f, rfl⟩ : ∃ f, e = f + 31 := ⟨e - 31, by omega⟩
  have eX : m * 2 ^ (f + 31) = 2 ^ 29 * (m * 2 ^ f * 4) := by
    rw [Nat.pow_add, show (2 : Nat) ^ 31 = 4 * 2 ^ 29 by decide]
    rw [← Nat.mul_assoc, ← Nat.mul_assoc, Nat.mul_comm (2 ^ 29)]
  obtain ⟨c, hc⟩ : ∃ c : Nat, 2 ^ (a - 1) = 2 * c ∧ c ≤ 2 := by
    rcases ha2 with h | h <;> subst h
    · exact ⟨1, by decide, by decide⟩
    · exact ⟨2, by decide, by decide⟩
  have eM : K * (n * 2 ^ (a - 1)) = 2 ^ 29 * (q * (n * c)) := by
    rw [hq, hc.1, show (2 : Nat) ^ 29 = 2 ^ 28 * 2 by decide, Nat.mul_left_comm n 2 c, Nat.mul_assoc, Nat.mul_assoc, Nat.mul_left_comm q 2]
  have hMb : n * 2 ^ (a - 1) < 2 ^ 27 := by
    rw [hc.1]
    have h1 : n * (2 * c) ≤ n * 4 := Nat.mul_le_mul_left n (by omega)
    have h2 : (2 : Nat) ^ 24 = 16777216 := by decide
    have h3 : (2 : Nat) ^ 27 = 134217728 := by decide
    omega
  have hEq : m * 2 ^ (f + 31) = K * (n * 2 ^ (a - 1)) := by
    rw [eM, eX] at hnear
    rw [eX, eM]
    have h3 : (2 : Nat) ^ 27 = 134217728 := by decide
    have h4 : (2 : Nat) ^ 29 = 536870912 := by decide
    rw [h4] at hnear ⊢
    rw [h3] at hMb
    generalize m * 2 ^ f * 4 = x at *
    generalize q * (n * c) = y at *
    omega
  have e9 : stk (m * 2 ^ (f + 31)) n = K * 2 ^ a := by
    unfold stk
    have h1 : m * 2 ^ (f + 31) = K * 2 ^ (a - 1) * n := by rw [hEq, Nat.mul_assoc, Nat.mul_comm n]
    rw [h1, Nat.mul_div_cancel _ hn0, Nat.mul_mod_left, if_pos rfl, Nat.add_zero, show a = a - 1 + 1 by omega, Nat.pow_succ, Nat.add_sub_cancel]
    rw [Nat.mul_comm 2, Nat.mul_assoc]
  rw [e9]
  exact Nat.mul_mod_left ..
end Go.Proofs.YtapcgokcfmklbaaDoor

namespace Go.Proofs.YtapcgokcfmklbaaDoor
open Go Go.RowKit

theorem read_exact (neg : Bool) {m : Nat} {p : Int} (h : m ≠ 0) (hl : m.log2 ≤ 52) (hlo : -1022 ≤ p + m.log2) (hhi : p + m.log2 ≤ 1000) :
    Ieee.double.read (Ieee.double.nearest neg m p) = .number neg (m * 2 ^ (52 - m.log2)) (p - ((52 - m.log2 : Nat) : Int)) := by
  obtain ⟨E, hE⟩ : ∃ E, p + m.log2 = E := ⟨_, rfl⟩
  have f1 : Ieee.double.fractionBits = 52 := rfl
  have f2 : Ieee.double.leastPlace = -1074 := by decide
  have f3 : Ieee.double.binade = 4503599627370496 := by decide
  have f4 : Ieee.double.infRung = 9218868437227405312 := by decide
  have f5 : Ieee.double.signWeight = 9223372036854775808 := by decide
  have hD : max (p + m.log2 - Ieee.double.fractionBits) Ieee.double.leastPlace = E - 52 := by rw [f1, f2, hE]; omega
  obtain ⟨K, hK⟩ : ∃ K, m * 2 ^ (52 - m.log2) = K := ⟨_, rfl⟩
  have h2 : K ≠ 0 := by rw [← hK]; exact Nat.mul_ne_zero h (Nat.ne_of_gt (Nat.two_pow_pos _))
  have h4 : K.log2 = 52 := by rw [← hK, log2_up h]; omega
  have h5 := Nat.log2_self_le h2
  have h6 : K < 2 ^ (K.log2 + 1) := Nat.lt_log2_self
  rw [h4] at h5 h6
  have c52 : (2 : Nat) ^ 52 = 4503599627370496 := by decide
  have c53 : (2 : Nat) ^ (52 + 1) = 9007199254740992 := by decide
  rw [c52] at h5
  rw [c53] at h6
  have hnear := nearest_rnd Ieee.double neg h hD
  have e1 : (p - (E - 52)).toNat = 52 - m.log2 := by omega
  have e2 : (E - 52 - p).toNat = 0 := by omega
  rw [e1, e2, rnd_zero, hK, f2, f3, f4] at hnear
  have hr : (E - 52 - -1074).toNat * 4503599627370496 + K < 9218868437227405312 := by omega
  rw [Nat.min_eq_left (by omega)] at hnear
  rw [hnear, hK]
  obtain ⟨R, hR⟩ : ∃ R, (E - 52 - -1074).toNat * 4503599627370496 + K = R := ⟨_, rfl⟩
  rw [hR] at hr ⊢
  have hw1 : (Ieee.double.word neg R / 9223372036854775808 % 2 == 1) = neg := by
    unfold Ieee.Format.word
    rw [f5]
    cases neg
    · simp only [Bool.false_eq_true, if_false]
      rw [Nat.div_eq_of_lt (by omega)]; rfl
    · simp only [if_true]
      rw [show (9223372036854775808 + R) / 9223372036854775808 = 1 by omega]; rfl
  have hw2 : Ieee.double.word neg R % 9223372036854775808 = R := by
    unfold Ieee.Format.word
    rw [f5]
    cases neg
    · simp only [Bool.false_eq_true, if_false]; omega
    · simp only [if_true]; omega
  unfold Ieee.Format.read
  simp only [f2, f3, f4, f5]
  rw [hw1, hw2]
  obtain ⟨u, hu⟩ : ∃ u : Nat, (E - 52 - -1074).toNat = u := ⟨_, rfl⟩
  rw [hu] at hR
  have hEu : (u : Int) = E - 52 + 1074 := by omega
  rw [if_neg (show ¬ R < 4503599627370496 by omega), if_pos (by omega)]
  congr 1
  · omega
  · omega
theorem stk_scale {A n k : Nat} : stk (A * 2 ^ k) (n * 2 ^ k) = stk A n := by
  have hk : 0 < 2 ^ k := Nat.two_pow_pos k
  unfold stk
  rw [Nat.mul_div_mul_right _ _ hk, Nat.mul_mod_mul_right]
  congr 1
  by_cases h : A % n = 0
  · rw [h, Nat.zero_mul]
  · rw [if_neg h, if_neg (Nat.mul_ne_zero h (Nat.ne_of_gt hk))]
theorem quo_form (d : Nat) (s t : Bool) (m n : Nat) (i j : Int) (hn : n ≠ 0) : (Ieee.Datum.number s m i).quotient d (.number t n j) = some (.number (s ^^ t) (stk (m * 2 ^ (d + n.log2 - m.log2)) n) (i - j - ((d + n.log2 - m.log2 : Nat) : Int) - 1)) := by
  unfold Ieee.Datum.quotient stk
  simp only
  rw [if_neg hn, Nat.shiftLeft_eq]
  congr 3
  by_cases h : m * 2 ^ (d + n.log2 - m.log2) % n = 0
  · rw [if_pos h, h]; rfl
  · rw [if_neg h]
    have : (m * 2 ^ (d + n.log2 - m.log2) % n != 0) = true := bne_iff_ne.2 h
    rw [this]; rfl
theorem single_div {x y : Nat} {s t : Bool} {m n : Nat} {i j : Int} (hx : Ieee.single.read x = .number s m i) (hy : Ieee.single.read y = .number t n j) (hn : n ≠ 0) :
    Ieee.single.div x y = some (Ieee.single.nearest (s ^^ t) (stk (m * 2 ^ (25 + n.log2 - m.log2)) n) (i - j - ((25 + n.log2 - m.log2 : Nat) : Int) - 1)) := by
  have h := quo_form (Ieee.single.fractionBits + 2) s t m n i j hn
  have e : Ieee.single.fractionBits + 2 = 25 := rfl
  rw [e] at h
  unfold Ieee.Format.div
  rw [hx, hy, e, h, Option.map_some]
  rfl
theorem double_div {x y : Nat} {s t : Bool} {m n : Nat} {i j : Int} (hx : Ieee.double.read x = .number s m i) (hy : Ieee.double.read y = .number t n j) (hn : n ≠ 0) :
    Ieee.double.div x y = some (Ieee.double.nearest (s ^^ t) (stk (m * 2 ^ (54 + n.log2 - m.log2)) n) (i - j - ((54 + n.log2 - m.log2 : Nat) : Int) - 1)) := by
  have h := quo_form (Ieee.double.fractionBits + 2) s t m n i j hn
  have e : Ieee.double.fractionBits + 2 = 54 := rfl
  rw [e] at h
  unfold Ieee.Format.div
  rw [hx, hy, e, h, Option.map_some]
  rfl
theorem f32_f64 {x : Nat} {s s2 : Bool} {m m2 : Nat} {i i2 : Int} (hx : Ieee.single.read x = .number s m i) (h2 : Ieee.double.read (Ieee.double.nearest s m i) = .number s2 m2 i2) : floatToFloatBits .f32 x .f64 = some (Ieee.double.nearest s m i) := by
  unfold floatToFloatBits
  rw [if_neg (by decide)]
  have e : FloatKind.f32.decode x = .number s m i := hx
  rw [e]
  simp only
  have e2 : FloatKind.f64.encode (.number s m i) = Ieee.double.nearest s m i := rfl
  have e3 : FloatKind.f64.decode (Ieee.double.nearest s m i) = .number s2 m2 i2 := h2
  rw [e2, e3]
  rfl
theorem f64_f32 {z r : Nat} {s : Bool} {m : Nat} {i : Int} (hz : Ieee.double.read z = .number s m i) (hr : Ieee.single.nearest s m i = r) (hf : (Ieee.single.read r).isInfinity = false) : floatToFloatBits .f64 z .f32 = some r := by
  unfold floatToFloatBits
  rw [if_neg (by decide)]
  have e : FloatKind.f64.decode z = .number s m i := hz
  rw [e]
  simp only
  have e2 : FloatKind.f32.encode (.number s m i) = r := hr
  have e3 : (FloatKind.f32.decode r).isInfinity = false := hf
  rw [e2, e3]
  rfl
theorem quo_double {x y r : Nat} {s t : Bool} {m n : Nat} {i j : Int} (hx : Ieee.single.read x = .number s m i) (hy : Ieee.single.read y = .number t n j) (hm0 : m ≠ 0) (hn0 : n ≠ 0)
    (hr : fop .quo x y = some r) (hfin : (Ieee.single.read r).isInfinity = false) :
    ∃ X Y Z, floatToFloatBits .f32 x .f64 = some X ∧ floatToFloatBits .f32 y .f64 = some Y ∧ Ieee.double.div X Y = some Z ∧ floatToFloatBits .f64 Z .f32 = some r := by
  have hbx := num_bd hx
  have hby := num_bd hy
  have c24 : (2 : Nat) ^ 24 = 16777216 := by decide
  have hlm : m.log2 ≤ 23 := Nat.le_of_lt_succ ((Nat.log2_lt hm0).2 (by rw [c24]; omega))
  have hln : n.log2 ≤ 23 := Nat.le_of_lt_succ ((Nat.log2_lt hn0).2 (by rw [c24]; omega))
  have hn1 : 0 < n := Nat.pos_of_ne_zero hn0
  obtain ⟨a, ha⟩ : ∃ a, m.log2 = a := ⟨_, rfl⟩
  obtain ⟨b, hb⟩ : ∃ b, n.log2 = b := ⟨_, rfl⟩
  rw [ha] at hlm
  rw [hb] at hln
  -- the single quotient
  obtain ⟨e1, he1⟩ : ∃ e1, 25 + b - a = e1 := ⟨_, rfl⟩
  have hr2 : r = Ieee.single.nearest (s ^^ t) (stk (m * 2 ^ e1) n) (i - j - (e1 : Int) - 1) := by
    have h1 : fop .quo x y = some (Ieee.single.nearest (s ^^ t) (stk (m * 2 ^ e1) n) (i - j - (e1 : Int) - 1)) := by
      have h0 := single_div hx hy hn0
      rw [ha, hb, he1] at h0
      exact h0
    rw [h1] at hr
    exact (Option.some.inj hr).symm
  -- its size
  have hm1 := Nat.log2_self_le hm0
  have hm2 : m < 2 ^ (m.log2 + 1) := Nat.lt_log2_self
  have hnn1 := Nat.log2_self_le hn0
  have hnn2 : n < 2 ^ (n.log2 + 1) := Nat.lt_log2_self
  rw [ha] at hm1 hm2
  rw [hb] at hnn1 hnn2
  have hX1 : 2 ^ 24 * n ≤ m * 2 ^ e1 := by
    have h1 : 2 ^ a * 2 ^ e1 ≤ m * 2 ^ e1 := Nat.mul_le_mul_right _ hm1
    rw [← Nat.pow_add, show a + e1 = 24 + (b + 1) by omega, Nat.pow_add] at h1
    have h2 : 2 ^ 24 * n ≤ 2 ^ 24 * 2 ^ (b + 1) := Nat.mul_le_mul_left _ (Nat.le_of_lt hnn2)
    exact Nat.le_trans h2 h1
  have hX2 : m * 2 ^ e1 < 2 ^ 26 * n := by
    have h1 : m * 2 ^ e1 < 2 ^ (a + 1) * 2 ^ e1 := Nat.mul_lt_mul_of_pos_right hm2 (Nat.two_pow_pos _)
    rw [← Nat.pow_add, show a + 1 + e1 = 26 + b by omega, Nat.pow_add] at h1
    have h2 : 2 ^ 26 * 2 ^ b ≤ 2 ^ 26 * n := Nat.mul_le_mul_left _ hnn1
    exact Nat.lt_of_lt_of_le h1 h2
  have hQ1 : 2 ^ 24 ≤ m * 2 ^ e1 / n := (Nat.le_div_iff_mul_le hn1).2 hX1
  have hQ2 : m * 2 ^ e1 / n < 2 ^ 26 := (Nat.div_lt_iff_lt_mul hn1).2 hX2
  have hs12 : 2 * (m * 2 ^ e1 / n) ≤ stk (m * 2 ^ e1) n ∧ stk (m * 2 ^ e1) n ≤ 2 * (m * 2 ^ e1 / n) + 1 := by unfold stk; split <;> omega
  have c26 : (2 : Nat) ^ 26 = 67108864 := by decide
  have c25 : (2 : Nat) ^ 25 = 33554432 := by decide
  have c27 : (2 : Nat) ^ 27 = 134217728 := by decide
  rw [c24] at hQ1
  rw [c26] at hQ2
  have hne1 : stk (m * 2 ^ e1) n ≠ 0 := by omega
  obtain ⟨l, hl⟩ : ∃ l, (stk (m * 2 ^ e1) n).log2 = l := ⟨_, rfl⟩
  have hl12 : l = 25 ∨ l = 26 := by
    have h1 : 25 ≤ l := by rw [← hl]; exact (Nat.le_log2 hne1).2 (by rw [c25]; omega)
    have h2 : l < 27 := by rw [← hl]; exact (Nat.log2_lt hne1).2 (by rw [c27]; omega)
    omega
  obtain ⟨hl2, hne2⟩ := stk_log (k := 29) hn1 hl (by omega)
  -- the double operands and quotient
  have rx := read_exact s (p := i) hm0 (by omega) (by omega) (by omega)
  have ry := read_exact t (p := j) hn0 (by omega) (by omega) (by omega)
  rw [ha] at rx
  rw [hb] at ry
  have hm20 : m * 2 ^ (52 - a) ≠ 0 := Nat.mul_ne_zero hm0 (Nat.ne_of_gt (Nat.two_pow_pos _))
  have hn20 : n * 2 ^ (52 - b) ≠ 0 := Nat.mul_ne_zero hn0 (Nat.ne_of_gt (Nat.two_pow_pos _))
  have lm2 : (m * 2 ^ (52 - a)).log2 = 52 := by rw [log2_up hm0]; omega
  have ln2 : (n * 2 ^ (52 - b)).log2 = 52 := by rw [log2_up hn0]; omega
  have hmag : stk (m * 2 ^ (52 - a) * 2 ^ 54) (n * 2 ^ (52 - b)) = stk (m * 2 ^ e1 * 2 ^ 29) n := by
    have : m * 2 ^ (52 - a) * 2 ^ 54 = m * 2 ^ e1 * 2 ^ 29 * 2 ^ (52 - b) := by
      rw [Nat.mul_assoc, ← Nat.pow_add, Nat.mul_assoc, Nat.mul_assoc, ← Nat.pow_add, ← Nat.pow_add]
      congr 2; omega
    rw [this, stk_scale]
  obtain ⟨p2, hp2⟩ : ∃ p2 : Int, i - ((52 - a : Nat) : Int) - (j - ((52 - b : Nat) : Int)) - ((54 : Nat) : Int) - 1 = p2 := ⟨_, rfl⟩
  have hdiv : Ieee.double.div (Ieee.double.nearest s m i) (Ieee.double.nearest t n j) = some (Ieee.double.nearest (s ^^ t) (stk (m * 2 ^ e1 * 2 ^ 29) n) p2) := by
    have h0 := double_div rx ry hn20
    rw [lm2, ln2, show 54 + 52 - 52 = 54 from rfl, hmag, hp2] at h0
    exact h0
  have hX3 : m * 2 ^ e1 * 2 ^ 29 = m * 2 ^ (e1 + 29) := by rw [Nat.mul_assoc, ← Nat.pow_add]
  obtain ⟨m', p', k1, k2, k3⟩ := dbl_round (s ^^ t) (m := stk (m * 2 ^ e1 * 2 ^ 29) n) (p := p2) hne2 (by rw [hl2]; omega) (by rw [hl2]; omega) (fun h52 G hG hK => by
    rw [hl2] at hK hG ⊢
    rw [hX3] at hK ⊢
    exact quo_H hn1 (by rw [c24]; omega) (by omega) (by rw [← hX3]; exact hl2) (by omega) (by rw [← hX3]; exact hne2) (by omega) hK)
  -- both rounded at once
  have hsame : Ieee.single.nearest (s ^^ t) (stk (m * 2 ^ e1 * 2 ^ 29) n) p2 = r := by
    have g1 : Ieee.single.fractionBits = 23 := rfl
    have g2 : Ieee.single.leastPlace = -149 := by decide
    obtain ⟨p1, hp1⟩ : ∃ p1 : Int, i - j - (e1 : Int) - 1 = p1 := ⟨_, rfl⟩
    rw [hp1] at hr2
    obtain ⟨L, hL⟩ : ∃ L : Int, max (p1 + l - 23) (-149) = L := ⟨_, rfl⟩
    rw [hr2, nearest_rnd Ieee.single _ hne1 (L := L) (by rw [g1, g2, hl]; exact hL), nearest_rnd Ieee.single _ hne2 (L := L) (by rw [g1, g2, hl2, ← hL]; congr 1; omega)]
    have q1 : (p1 - L).toNat = 0 := by omega
    have q2 : (p2 - L).toNat = 0 := by omega
    obtain ⟨u, hu⟩ : ∃ u, (L - p1).toNat = u := ⟨_, rfl⟩
    have q3 : (L - p2).toNat = u + 29 := by omega
    rw [q1, q2, q3, hu, Nat.pow_zero, Nat.mul_one, Nat.mul_one, stk_rnd hn1 (by omega), stk_rnd hn1 (by omega), RR_up _ _ _ _ (by omega)]
  rw [hsame] at k3
  exact ⟨_, _, _, f32_f64 hx rx, f32_f64 hy ry, hdiv, f64_f32 k1 k3 hfin⟩
end Go.Proofs.YtapcgokcfmklbaaDoor

namespace Go.Proofs.YtapcgokcfmklbaaDoor
open Go Go.RowKit

/-- a / b as a single -/
def shB (a b : Nat) : Nat := (fop .quo (cvF a) (cvF b)).getD 0
theorem cv_read : ∀ k : Nat, k < 252 → 0 < k → (match Ieee.single.read (cvF (k : Int)) with | .number false m i => decide (8388608 ≤ m) && decide (m < 16777216) && decide (-23 ≤ i) && decide (i ≤ -16) | _ => false) = true := by decide +kernel
theorem cv_num {k : Nat} (h1 : k < 252) (h2 : 0 < k) : ∃ m i, Ieee.single.read (cvF (k : Int)) = .number false m i ∧ 8388608 ≤ m ∧ m < 16777216 ∧ -23 ≤ i ∧ i ≤ -16 := by
  have h := cv_read k h1 h2
  split at h
  · rename_i m i hr
    simp only [Bool.and_eq_true, decide_eq_true_eq] at h
    exact ⟨m, i, hr, h.1.1.1, h.1.1.2, h.1.2, h.2⟩
  · cases h
theorem log_23 {m : Nat} (h1 : 8388608 ≤ m) (h2 : m < 16777216) : m.log2 = 23 := by
  have hm : m ≠ 0 := by omega
  have e1 : (2 : Nat) ^ 23 = 8388608 := by decide
  have e2 : (2 : Nat) ^ (23 + 1) = 16777216 := by decide
  apply Nat.le_antisymm
  · exact Nat.le_of_lt_succ ((Nat.log2_lt hm).2 (by rw [e2]; exact h2))
  · exact (Nat.le_log2 hm).2 (by rw [e1]; exact h1)
theorem shB_ok {a b : Nat} (h1 : 1 ≤ a) (h2 : a < b) (h3 : b ≤ 251) : fop .quo (cvF a) (cvF b) = some (shB a b) ∧ 0 < shB a b ∧ shB a b < 2139095040 ∧
    ∃ x y z, floatToFloatBits .f32 (cvF a) .f64 = some x ∧ floatToFloatBits .f32 (cvF b) .f64 = some y ∧ Ieee.double.div x y = some z ∧ floatToFloatBits .f64 z .f32 = some (shB a b) := by
  obtain ⟨m, i, hx, m1, m2, i1, i2⟩ := cv_num (k := a) (by omega) (by omega)
  obtain ⟨n, j, hy, n1, n2, j1, j2⟩ := cv_num (k := b) (by omega) (by omega)
  have hm0 : m ≠ 0 := by omega
  have hn0 : n ≠ 0 := by omega
  have hn1 : 0 < n := by omega
  have hd : fop .quo (cvF a) (cvF b) = _ := single_div hx hy hn0
  rw [log_23 m1 m2, log_23 n1 n2, show 25 + 23 - 23 = 25 from rfl] at hd
  -- the size
  have c25 : (2 : Nat) ^ 25 = 33554432 := by decide
  have c26 : (2 : Nat) ^ 26 = 67108864 := by decide
  have c27 : (2 : Nat) ^ 27 = 134217728 := by decide
  have hQ1 : 16777216 ≤ m * 2 ^ 25 / n := (Nat.le_div_iff_mul_le hn1).2 (by rw [c25]; omega)
  have hQ2 : m * 2 ^ 25 / n < 67108864 := (Nat.div_lt_iff_lt_mul hn1).2 (by rw [c25]; omega)
  have hs12 : 2 * (m * 2 ^ 25 / n) ≤ stk (m * 2 ^ 25) n ∧ stk (m * 2 ^ 25) n ≤ 2 * (m * 2 ^ 25 / n) + 1 := by unfold stk; split <;> omega
  have hne1 : stk (m * 2 ^ 25) n ≠ 0 := by omega
  obtain ⟨S, hS⟩ : ∃ S, stk (m * 2 ^ 25) n = S := ⟨_, rfl⟩
  rw [hS] at hd hne1 hs12
  obtain ⟨l, hl⟩ : ∃ l, S.log2 = l := ⟨_, rfl⟩
  have hl12 : l = 25 ∨ l = 26 := by
    have k1 : 25 ≤ l := by rw [← hl]; exact (Nat.le_log2 hne1).2 (by rw [c25]; omega)
    have k2 : l < 27 := by rw [← hl]; exact (Nat.log2_lt hne1).2 (by rw [c27]; omega)
    omega
  have g1 : Ieee.single.fractionBits = 23 := rfl
  have g2 : Ieee.single.leastPlace = -149 := by decide
  have g3 : Ieee.single.binade = 8388608 := by decide
  have g4 : Ieee.single.infRung = 2139095040 := by decide
  obtain ⟨p, hp⟩ : ∃ p : Int, i - j - ((25 : Nat) : Int) - 1 = p := ⟨_, rfl⟩
  rw [hp] at hd
  have hnr := nearest_rnd Ieee.single (false ^^ false) hne1 (p := p) (L := p + l - 23) (by rw [g1, g2, hl]; omega)
  have q1 : (p - (p + l - 23)).toNat = 0 := by omega
  have q2 : (p + l - 23 - p).toNat = l - 23 := by omega
  rw [q1, q2, Nat.pow_zero, Nat.mul_one, g2, g3, g4] at hnr
  have hb := rnd_bd (m := S) (k := l - 23) hne1 (by omega)
  rw [hl, show l - (l - 23) = 23 by omega] at hb
  have c23 : (2 : Nat) ^ 23 = 8388608 := by decide
  have c24 : (2 : Nat) ^ (23 + 1) = 16777216 := by decide
  rw [c23, c24] at hb
  obtain ⟨u, hu⟩ : ∃ u : Nat, (p + l - 23 - -149).toNat = u := ⟨_, rfl⟩
  have hub : u ≤ 133 := by omega
  rw [hu, Nat.min_eq_left (by omega)] at hnr
  have hw : Ieee.single.word (false ^^ false) (u * 8388608 + rnd S (l - 23)) = u * 8388608 + rnd S (l - 23) := rfl
  rw [hw] at hnr
  rw [hnr] at hd
  obtain ⟨r, hr⟩ : ∃ r, u * 8388608 + rnd S (l - 23) = r := ⟨_, rfl⟩
  rw [hr] at hd
  have hrb : 0 < r ∧ r < 2139095040 := by omega
  have hsh : shB a b = r := by unfold shB; rw [hd]; rfl
  rw [hsh]
  have hfin : (Ieee.single.read r).isInfinity = false := by
    have e1 : Ieee.single.signWeight = 2147483648 := rfl
    unfold Ieee.Format.read
    simp only [e1, g3, g4]
    rw [Nat.mod_eq_of_lt (show r < 2147483648 by omega)]
    split
    · rfl
    · rw [if_pos hrb.2]; rfl
  obtain ⟨X, Y, Z, k1, k2, k3, k4⟩ := quo_double hx hy hm0 hn0 hd hfin
  exact ⟨hd, hrb.1, hrb.2, X, Y, Z, k1, k2, k3, k4⟩
end Go.Proofs.YtapcgokcfmklbaaDoor

namespace Go.Proofs.YtapcgokcfmklbaaDoor
open Go Go.RowKit

/-- a shot, without its event -/
structure Sh where
  reel : List UInt8
  frame : Int
  back : List UInt8
  bf : Int
  share : Nat
deriving DecidableEq
def Sh.z : Sh := ⟨[], 0, [], 0, 0⟩
def hit (e : Ev) (f : Int) : Bool := decide (e.at_ ≤ f ∧ f < evEnd e)
/-- the first event, of the first k, that stands in f -/
def fst (l : List Ev) (f : Int) : Nat → Option Nat
  | 0 => none
  | k + 1 => match fst l f k with
    | some i => some i
    | none => if hit (l.getD k default) f = true then some k else none
theorem fst_no {l : List Ev} {f : Int} {k : Nat} (h : fst l f k = none) (h2 : ¬ ((l.getD k default).at_ ≤ f ∧ f < evEnd (l.getD k default))) : fst l f (k + 1) = none := by
  unfold fst
  rw [h]
  exact if_neg (by unfold hit; rw [decide_eq_true_eq]; exact h2)
theorem fst_yes {l : List Ev} {f : Int} {k : Nat} (h : fst l f k = none) (h2 : (l.getD k default).at_ ≤ f ∧ f < evEnd (l.getD k default)) : fst l f (k + 1) = some k := by
  unfold fst
  rw [h]
  exact if_pos (decide_eq_true h2)
theorem fst_stay {l : List Ev} {f : Int} {k i : Nat} (h : fst l f k = some i) : ∀ d, fst l f (k + d) = some i
  | 0 => h
  | d + 1 => by
    show fst l f (k + d + 1) = some i
    unfold fst
    rw [fst_stay h d]
theorem fst_le {l : List Ev} {f : Int} {k m i : Nat} (h : fst l f k = some i) (hm : k ≤ m) : fst l f m = some i := by
  have := fst_stay h (m - k)
  rwa [show k + (m - k) = m by omega] at this
/-- the shot at frame f of event i -/
def shOf (l : List Ev) (f : Int) (i : Nat) : Sh :=
  if f - (l.getD i default).at_ < (l.getD i default).len then
    ⟨(l.getD i default).reel, (l.getD i default).inn + f - (l.getD i default).at_, (l.getD (i - 1) default).reel, (l.getD (i - 1) default).inn + f - (l.getD (i - 1) default).at_, shB (f - (l.getD i default).at_ + 1).toNat ((l.getD i default).len + 1).toNat⟩
  else ⟨(l.getD i default).reel, (l.getD i default).inn + f - (l.getD i default).at_, [], 0, 1065353216⟩
def atR (l : List Ev) (f : Int) : Nat × Sh × Int := match fst l f l.length with
  | some i => (i, shOf l f i, 0)
  | none => (0, Sh.z, 11)
def shV (i : Nat) (s : Sh) : Value := .agg #[iv (i : Nat), sv s.reel, iv s.frame, sv s.back, iv s.bf, flt s.share]
def atV (x : Nat × Sh × Int) : Value := .tuple #[shV x.1 x.2.1, iv x.2.2]
theorem atR_none {l : List Ev} {f : Int} (h : fst l f l.length = none) : atR l f = (0, Sh.z, 11) := by unfold atR; rw [h]
theorem atR_some {l : List Ev} {f : Int} {k : Nat} (hk : k < l.length) (h : fst l f k = none) (h2 : (l.getD k default).at_ ≤ f ∧ f < evEnd (l.getD k default)) : atR l f = (k, shOf l f k, 0) := by
  unfold atR; rw [fst_le (fst_yes h h2) (by omega)]
theorem at_none {l : List Ev} {f : Int} {k : Nat} (hk : k = l.length) (h : fst l f k = none) : .tuple #[.agg #[iv 0, sv [], iv 0, sv [], iv 0, flt 0], iv 11] = atV (atR l f) := by
  subst hk; rw [atR_none h]; rfl
theorem at_cut {l : List Ev} {f : Int} {k : Nat} {e : Ev} (hk : k < l.length) (h : fst l f k = none) (he : l.getD k default = e) (h1 : e.at_ ≤ f ∧ f < evEnd e) (h2 : ¬ f - e.at_ < e.len) :
    .tuple #[.agg #[iv (k : Nat), sv e.reel, iv (e.inn + f - e.at_), sv [], iv 0, flt 1065353216], iv 0] = atV (atR l f) := by
  subst he
  rw [atR_some hk h h1]
  unfold shOf
  rw [if_neg h2]; rfl
theorem at_dis {l : List Ev} {f : Int} {k r : Nat} {e p : Ev} (hk : k < l.length) (h : fst l f k = none) (he : l.getD k default = e) (hp : l.getD (k - 1) default = p) (h1 : e.at_ ≤ f ∧ f < evEnd e) (h2 : f - e.at_ < e.len)
    (hr : r = shB (f - e.at_ + 1).toNat (e.len + 1).toNat) : .tuple #[.agg #[iv (k : Nat), sv e.reel, iv (e.inn + f - e.at_), sv p.reel, iv (p.inn + f - p.at_), flt r], iv 0] = atV (atR l f) := by
  subst he hp hr
  rw [atR_some hk h h1]
  unfold shOf
  rw [if_pos h2]; rfl
theorem sh_quo {a b : Int} {r : Nat} (h1 : 1 ≤ a) (h2 : a < b) (h3 : b ≤ 251) (hr : FR (fop .quo (cvF a) (cvF b)) r) : r = shB a.toNat b.toNat := by
  have h := (shB_ok (a := a.toNat) (b := b.toNat) (by omega) (by omega) (by omega)).1
  rw [Int.toNat_of_nonneg (by omega), Int.toNat_of_nonneg (by omega)] at h
  rw [h] at hr
  exact hr
end Go.Proofs.YtapcgokcfmklbaaDoor

namespace Go.Proofs.YtapcgokcfmklbaaDoor
open Go Go.RowKit

/-- a field's value -/
inductive Fd where
  | i (z : Int)
  | s (l : List UInt8)
  | f (b : Nat)
  | b (x : Bool)
def Fd.v : Fd → Value
  | .i z => iv z
  | .s l => sv l
  | .f n => flt n
  | .b x => .bool x
def Fd.k : Fd → Nat
  | .i _ => 0
  | .s _ => 1
  | .f _ => 2
  | .b _ => 3
def Fd.eq : Fd → Fd → Bool
  | .i z, .i w => z == w
  | .s l, .s m => l == m
  | .f m, .f n => fcmpB .eql m n
  | .b x, .b y => x == y
  | _, _ => false
def allEq : List Fd → List Fd → Bool
  | [], [] => true
  | a :: l, b :: m => a.eq b && allEq l m
  | _, _ => false
def tyKind (P : Program) (t : TypeId) : Nat :=
  match P.underlying t with
  | some (.int .i64) => 0
  | some .string => 1
  | some (.float .f32) => 2
  | some .bool => 3
  | _ => 9
theorem equal_fd {P : Program} {w : World} {d : Nat} {t : TypeId} {x y : Fd} (hx : tyKind P t = x.k) (hy : tyKind P t = y.k) : (Op.equalIn (d + 1) t x.v y.v).run P w = .ok (x.eq y) w := by
  unfold tyKind at hx hy
  cases x <;> cases y <;> simp only [Fd.k] at hx hy <;> first | (exfalso; omega) | skip
  · have hu : P.underlying t = some (.int .i64) := by split at hx <;> simp_all
    rename_i a c
    exact run_equalIn_int w d t .i64 .i64 a c hu
  · have hu : P.underlying t = some .string := by split at hx <;> simp_all
    rename_i a c
    have h := run_equalIn_string (P := P) w d t ⟨a.toArray⟩ ⟨c.toArray⟩ hu
    rw [bs_toList, bs_toList] at h
    exact h
  · have hu : P.underlying t = some (.float .f32) := by split at hx <;> simp_all
    unfold Op.equalIn
    simp only [Fd.v, Fd.eq, Sem.run_bind, run_underlying hu, Result.andThen_ok, if_true, Sem.run_pure]
    rfl
  · have hu : P.underlying t = some .bool := by split at hx <;> simp_all
    rename_i a c
    exact run_equalIn_bool w d t a c hu
def mixF (P : Program) : Nat → List Field → List Nat → Bool
  | _, [], [] => true
  | o, f :: fs, k :: ks => f.name != "_" && f.offset == o && tyKind P f.type == k && (match tyChk P f.type with | some ([_], false, _) => true | _ => false) && mixF P (o + 1) fs ks
  | _, _, _ => false
def mixT (P : Program) (t : TypeId) (ks : List Nat) : Bool :=
  match P.underlying t with
  | some (.struct fs) => !P.stoodInHeld t && !P.eqGuardType P.depth t && mixF P 0 fs.toList ks
  | _ => false
theorem eqFields_mix {P : Program} {w : World} {d : Nat} {X Y : List Value} : ∀ (fs : List Field) (ks : List Nat) (o : Nat) (zs ws : List Fd), mixF P o fs ks = true → zs.map Fd.k = ks → ws.map Fd.k = ks → X.drop o = zs.map Fd.v → Y.drop o = ws.map Fd.v →
    (Op.eqFields (d + 1) X.toArray Y.toArray fs).run P w = .ok (allEq zs ws) w
  | [], [], o, [], [], _, _, _, _, _ => by simp [Op.eqFields, allEq]
  | f :: fs, k :: ks, o, z :: zs, v :: ws, h, h1, h2, h3, h4 => by
    simp only [mixF, Bool.and_eq_true, bne_iff_ne, ne_eq, beq_iff_eq] at h
    obtain ⟨⟨⟨⟨hn, ho⟩, hu⟩, hc⟩, hr⟩ := h
    simp only [List.map_cons, List.cons.injEq] at h1 h2
    split at hc
    · rename_i q b hc'
      have hx : X[o]? = some z.v := by
        have := congrArg (·[0]?) h3
        simpa using this
      have hy : Y[o]? = some v.v := by
        have := congrArg (·[0]?) h4
        simpa using this
      have h3' : X.drop (o + 1) = zs.map Fd.v := by rw [← List.drop_drop, h3]; rfl
      have h4' : Y.drop (o + 1) = ws.map Fd.v := by rw [← List.drop_drop, h4]; rfl
      have ih := eqFields_mix (w := w) (d := d) fs ks (o + 1) zs ws hr h1.2 h2.2 h3' h4'
      subst ho
      unfold Op.eqFields
      rw [if_pos (by simpa using hn)]
      have e1 : (part f.type X.toArray f.offset).run P w = .ok z.v w := by simp [part, run_ag hc', hx]
      have e2 : (part f.type Y.toArray f.offset).run P w = .ok v.v w := by simp [part, run_ag hc', hy]
      simp only [Sem.run_bind, e1, e2, Result.andThen_ok, equal_fd (P := P) (w := w) (d := d) (hu.trans h1.1.symm) (hu.trans h2.1.symm)]
      cases e : z.eq v
      · simp [allEq, e]
      · simpa [allEq, e] using ih
    · cases hc
  | [], [], _, [], _ :: _, _, _, h2, _, _ => by simp at h2
  | [], [], _, _ :: _, _, _, h1, _, _, _ => by simp at h1
  | [], _ :: _, _, _, _, h, _, _, _, _ => by simp [mixF] at h
  | _ :: _, [], _, _, _, h, _, _, _, _ => by simp [mixF] at h
  | _ :: _, _ :: _, _, [], _, _, h1, _, _, _ => by simp at h1
  | _ :: _, _ :: _, _, _ :: _, [], _, _, h2, _, _ => by simp at h2
theorem equal_mix {P : Program} {t : TypeId} {ks : List Nat} (hn : mixT P t ks = true) {zs ws : List Fd} (h1 : zs.map Fd.k = ks) (h2 : ws.map Fd.k = ks) (w : World) :
    (Op.equalIn 10000 t (.agg (zs.map Fd.v).toArray) (.agg (ws.map Fd.v).toArray)).run P w = .ok (allEq zs ws) w ∧ P.eqGuardType P.depth t = false := by
  unfold mixT at hn
  split at hn
  · rename_i fs hu
    simp only [Bool.and_eq_true, Bool.not_eq_true'] at hn
    obtain ⟨⟨a1, a2⟩, a3⟩ := hn
    refine ⟨?_, a2⟩
    have hf : P.fieldsOf t = fs := by unfold Program.fieldsOf; rw [hu]
    have h9 := run_equalIn_struct w 9999 t (zs.map Fd.v).toArray (ws.map Fd.v).toArray (by rw [hf]; exact hu) a1
    rw [h9, hf]
    exact eqFields_mix (d := 9998) fs.toList ks 0 zs ws a3 h1 h2 rfl rfl
  · cases hn
section
variable {P : Program} {W : World} {H : HL} {e : Env} {x y : Operand} {t t' ty : TypeId}
theorem QO.seqlM (zs ws : List Fd) {ks : List Nat} (hn : mixT P t ks = true) (hx : ev e x = .agg (zs.map Fd.v).toArray) (hy : ev e y = .agg (ws.map Fd.v).toArray) (h1 : zs.map Fd.k = ks) (h2 : ws.map Fd.k = ks) : QO P W H e (.binOp .eql t x y t') ty (.bool (allEq zs ws)) := by
  refine QO.bin hx hy (fun w => ?_)
  obtain ⟨h3, h4⟩ := equal_mix hn h1 h2 w
  simp only [Sem.run_bind, run_eqGuard_agg w .eql t x y _ _ h4, Result.andThen_ok, run_eql_struct, h3]
theorem QO.sneqM (zs ws : List Fd) {ks : List Nat} (hn : mixT P t ks = true) (hx : ev e x = .agg (zs.map Fd.v).toArray) (hy : ev e y = .agg (ws.map Fd.v).toArray) (h1 : zs.map Fd.k = ks) (h2 : ws.map Fd.k = ks) : QO P W H e (.binOp .neq t x y t') ty (.bool (!allEq zs ws)) := by
  refine QO.bin hx hy (fun w => ?_)
  obtain ⟨h3, h4⟩ := equal_mix hn h1 h2 w
  simp only [Sem.run_bind, run_eqGuard_agg w .neq t x y _ _ h4, Result.andThen_ok, run_neq_struct, h3]
end
section
variable {P : Program} {W : World} {n : Nat} {ops : Array Oper} {Q : Env → HL → Prop} {rest : List Oper} {e : Env} {H : HL}
variable {d : Tmp} {ty t : TypeId} {pos : String} {af : Array Edge} {z : List Value} {ag : Bool} {by_ : Nat}
end
end Go.Proofs.YtapcgokcfmklbaaDoor
