/-
  Contracts: dyeref1.Trimmed. Conditions: as each theorem says.
-/
import Derived.Test.YtapcgokcfmklbaaDoorE7
namespace Go.Proofs.YtapcgokcfmklbaaDoor
open Go Go.Proofs Go.RowKit

theorem ok39 : callOK Tryd.prog 39 = true := by kernel_rfl

theorem slip_3 {l : List Ev} {i : Nat} {b : Int} {junk : List Value} (hi : i < l.length) : (evs (trimK l i b (i + 1)) ++ junk).set (i * 6 + 3) (iv ((l.getD i default).inn + b)) = evs (slipL l i b) ++ junk := by
  have h := trimK_set (i := i) (k := i) (b := b) hi
  rw [trimK_0] at h
  rw [← h, Nat.mul_comm, evs_set (e := slipE (l.getD i default) b) (by rw [List.length_set]; exact hi) (by omega) ?_, List.set_set]
  · rfl
  rw [getD_set hi]; unfold trimE; rw [if_pos rfl]; rfl

set_option maxRecDepth 100000 in
theorem trimmed (t : List UInt8) (rate : Int) (A : Option Addr) (n c : Nat) (l : List Ev) (i by_ : Int) (tr : Bool) (W : World) (ht : t.length ≤ maxLen) (hl : l.length = n) (hES : ES W A l) (hr : ∀ e ∈ l, e.reel.length ≤ maxLen) (hm : n ≤ maxLen) : Fn_ Tryd.prog 26 #[.agg #[sv t, iv rate, .slice A n c], iv i, iv by_, .bool tr] W (fun v H => chR t rate n l (if tr = true then trimEL l i.toNat (min (max by_ (-1099511627776)) 1099511627776) else slipL l i.toNat (min (max by_ (-1099511627776)) 1099511627776)) i v H) := by
  refine Fn_.intro Tryd.func26 rfl rfl (by rfl) ?_
  refine CS.seq ?_
  refine CS.region ?_
  refine RS.box rfl (by rfl) (by rfl) ?_
  intro g4
  refine RS.alloc rfl ty52 ?_
  intro g8
  refine RS.q rfl (QO.assign) ?_
  refine RS.nil ?_
  refine thenC_n ?_
  refine CS.seq ?_
  refine CS.seq ?_
  refine CS.region ?_
  first | (refine RS.q rfl (QO.loadB ty52 (by rfl) (by repeat (first | exact List.Mem.head _ | refine List.Mem.tail _ ?_)) (by rfl)) ?_) | (refine RS.q rfl (QO.loadA ty52 (by rfl) (by repeat (first | exact List.Mem.head _ | refine List.Mem.tail _ ?_)) (by rfl) (by rfl)) ?_) | (refine RS.q rfl (QO.loadOA ty52 (by rfl) (by assumption) (by rfl)) ?_)
  refine RS.call rfl (by rfl) ok39 (by rfl) (fun w ho => editsError t rate A n c l _ ht hl (hES.own ho) hr hm) ?_
  rintro _ _ ⟨rfl, rfl⟩
  refine RS.q rfl (QO.assign) ?_
  refine RS.nil ?_
  refine thenC_n ?_
  refine CS.seq ?_
  refine CS.region ?_
  refine RS.q rfl (QO.move) ?_
  refine RS.q rfl (QO.neq (by rfl) (by rfl)) ?_
  refine RS.nil ?_
  refine thenC_n ?_
  refine CS.cond (by rfl) (fun hb0 => ?_) (fun hb0 => ?_)
  · have hb0p := bne_iff_ne.1 hb0
    refine CS.seq ?_
    refine CS.region ?_
    refine RS.q rfl (QO.build ty52 pl52 (by rfl)) ?_
    refine RS.q rfl (QO.move) ?_
    first | refine RS.storeB ty52 (by rfl) (by rfl) (by rfl) (by rfl) (by rfl) (by repeat (first | exact Upd.head | apply Upd.tail)) (by rfl) ?_ | refine RS.storeP ty52 (by rfl) (by rfl) (by rfl) (by rfl) (by rfl) (by repeat (first | exact Upd.head | apply Upd.tail)) (by rfl) ?_
    refine RS.q rfl (QO.assign) ?_
    refine RS.nil ?_
    refine thenC_n ?_
    refine CS.ret ?_
    refine thenC_r ?_
    refine retQ.mk (H' := []) (.inr rfl) (RVs.cellA ty52 (by rfl) (by repeat (first | exact List.Mem.head _ | refine List.Mem.tail _ ?_)) (by rfl) (RVs.tmp (by rfl) RVs.nil)) (List.nil_sublist _) ?_
    exact .inl ⟨hb0p, rfl, rfl⟩
  have hb0p := of_bne_false hb0
  refine CS.skip ?_
  refine thenC_n ?_
  refine CS.seq ?_
  refine CS.seq ?_
  refine CS.region ?_
  refine RS.q rfl (QO.move) ?_
  refine RS.q rfl (QO.lss (by rfl) (by rfl)) ?_
  refine RS.q rfl (QO.move) ?_
  refine RS.split (dj := 21) (by rfl) (fun hb1 => ?_) (fun hb1 => ?_)
  · have hb1p := of_decide_eq_true hb1
    refine RS.off (dj := 21) rfl (.inl (congrArg Value.bool hb1)) (fun _ => rfl) rfl ?_
    refine RS.off (dj := 21) rfl (.inl (congrArg Value.bool hb1)) (fun _ => rfl) rfl ?_
    refine RS.off (dj := 21) rfl (.inl (congrArg Value.bool hb1)) (fun _ => rfl) rfl ?_
    refine RS.off (dj := 21) rfl (.inl (congrArg Value.bool hb1)) (fun _ => rfl) rfl ?_
    refine RS.off (dj := 21) rfl (.inl (congrArg Value.bool hb1)) (fun _ => rfl) rfl ?_
    refine RS.q rfl (QO.pickT (by rfl) hb1 (by rfl)) ?_
    refine RS.nil ?_
    refine thenC_n ?_
    refine CS.condT (by rfl) rfl ?_
    refine CS.seq ?_
    refine CS.region ?_
    refine RS.q rfl (QO.build ty52 pl52 (by rfl)) ?_
    first | refine RS.storeB ty52 (by rfl) (by rfl) (by rfl) (by rfl) (by rfl) (by repeat (first | exact Upd.head | apply Upd.tail)) (by rfl) ?_ | refine RS.storeP ty52 (by rfl) (by rfl) (by rfl) (by rfl) (by rfl) (by repeat (first | exact Upd.head | apply Upd.tail)) (by rfl) ?_
    refine RS.q rfl (QO.assign) ?_
    refine RS.nil ?_
    refine thenC_n ?_
    refine CS.ret ?_
    refine thenC_r ?_
    refine retQ.mk (H' := []) (.inr rfl) (RVs.cellA ty52 (by rfl) (by repeat (first | exact List.Mem.head _ | refine List.Mem.tail _ ?_)) (by rfl) (RVs.tmp (by rfl) RVs.nil)) (List.nil_sublist _) ?_
    exact .inr (.inl ⟨by omega, by omega, rfl, rfl⟩)
  have hb1p := of_decide_eq_false hb1
  refine RS.on (dj := 21) rfl (congrArg Value.bool hb1) ?_
  refine RS.q rfl (QO.move) ?_
  refine RS.on (dj := 21) rfl (congrArg Value.bool hb1) ?_
  refine RS.q rfl (QO.fieldAddr fo52_2 (by rfl)) ?_
  refine RS.on (dj := 21) rfl (congrArg Value.bool hb1) ?_
  first | (refine RS.q rfl (QO.load ty50 (by rfl) (by repeat (first | exact List.Mem.head _ | refine List.Mem.tail _ ?_)) (by rfl)) ?_) | (refine RS.q rfl (QO.loadO ty50 (by rfl) (by assumption)) ?_) | (refine RS.q rfl (QO.load ty50 (by rfl) (by repeat (first | exact List.Mem.head _ | refine List.Mem.tail _ ?_)) (by assumption)) ?_)
  refine RS.on (dj := 21) rfl (congrArg Value.bool hb1) ?_
  refine RS.q rfl (QO.lenS Tryd.underlying50 (by rfl)) ?_
  refine RS.on (dj := 21) rfl (congrArg Value.bool hb1) ?_
  refine RS.q rfl (QO.geq (by rfl) (by rfl)) ?_
  refine RS.q rfl (QO.pickF (by rfl) hb1 (by rfl)) ?_
  refine RS.nil ?_
  refine thenC_n ?_
  refine CS.cond (by rfl) (fun hb2 => ?_) (fun hb2 => ?_)
  · have hb2p := of_decide_eq_true hb2
    refine CS.seq ?_
    refine CS.region ?_
    refine RS.q rfl (QO.build ty52 pl52 (by rfl)) ?_
    first | refine RS.storeB ty52 (by rfl) (by rfl) (by rfl) (by rfl) (by rfl) (by repeat (first | exact Upd.head | apply Upd.tail)) (by rfl) ?_ | refine RS.storeP ty52 (by rfl) (by rfl) (by rfl) (by rfl) (by rfl) (by repeat (first | exact Upd.head | apply Upd.tail)) (by rfl) ?_
    refine RS.q rfl (QO.assign) ?_
    refine RS.nil ?_
    refine thenC_n ?_
    refine CS.ret ?_
    refine thenC_r ?_
    refine retQ.mk (H' := []) (.inr rfl) (RVs.cellA ty52 (by rfl) (by repeat (first | exact List.Mem.head _ | refine List.Mem.tail _ ?_)) (by rfl) (RVs.tmp (by rfl) RVs.nil)) (List.nil_sublist _) ?_
    exact .inr (.inl ⟨by omega, by omega, rfl, rfl⟩)
  have hb2p := of_decide_eq_false hb2
  refine CS.skip ?_
  refine thenC_n ?_
  refine CS.seq ?_
  refine CS.region ?_
  refine RS.q rfl (QO.fieldAddr fo52_2 (by rfl)) ?_
  first | (refine RS.q rfl (QO.load ty50 (by rfl) (by repeat (first | exact List.Mem.head _ | refine List.Mem.tail _ ?_)) (by rfl)) ?_) | (refine RS.q rfl (QO.loadO ty50 (by rfl) (by assumption)) ?_) | (refine RS.q rfl (QO.load ty50 (by rfl) (by repeat (first | exact List.Mem.head _ | refine List.Mem.tail _ ?_)) (by assumption)) ?_)
  refine RS.call rfl (by rfl) ok85 (by rfl) (fun w ho => clone_ A n c l _ hl (hES.own ho) (by omega) (by have := edE_len (t := t) (r := rate) (l := l) (by omega); omega)) ?_
  rintro _ _ ⟨gq, cq, jq, rfl, rfl, hcq, hcqx⟩
  have hok := edE_ok (t := t) (r := rate) (l := l) (by omega)
  have h500 := hok.2.2.1
  have hrg := edE_rng (t := t) (r := rate) (l := l) (by omega)
  have hei := hrg (l.getD i.toNat default) (by rw [List.getD_eq_getElem?_getD, List.getElem?_eq_getElem (by omega)]; exact List.getElem_mem _)
  refine RS.q rfl (QO.fieldAddr fo52_2 (by rfl)) ?_
  refine RS.store1 ty50 rfl (by rfl) (by rfl) (by rfl) (by repeat (first | exact Upd.head | apply Upd.tail)) (by first | (simp; done) | (simp; omega) | omega) ?_
  refine RS.nil ?_
  refine thenC_n ?_
  refine CS.seq ?_
  refine CS.region ?_
  refine RS.q rfl (QO.move) ?_
  refine RS.q rfl (QO.max2 (by rfl) (by rfl)) ?_
  refine RS.q rfl (QO.min2 (by rfl) (by rfl)) ?_
  refine RS.q rfl (QO.assign) ?_
  refine RS.nil ?_
  refine thenC_n ?_
  refine CS.seq ?_
  refine CS.region ?_
  refine RS.q rfl (QO.fieldAddr fo52_2 (by rfl)) ?_
  first | (refine RS.q rfl (QO.load ty50 (by rfl) (by repeat (first | exact List.Mem.head _ | refine List.Mem.tail _ ?_)) (by rfl)) ?_) | (refine RS.q rfl (QO.loadO ty50 (by rfl) (by assumption)) ?_) | (refine RS.q rfl (QO.load ty50 (by rfl) (by repeat (first | exact List.Mem.head _ | refine List.Mem.tail _ ?_)) (by assumption)) ?_)
  refine RS.q rfl (QO.move) ?_
  refine RS.qv rfl (QO.idx Tryd.underlying50 ty134 (by rfl) (by rfl) (by omega) (by omega)) ((congrArg (fun o => Value.pointer (some ⟨gq, o, none⟩)) (Nat.zero_add _))) ?_
  refine RS.q rfl (QO.fieldAddr fo134_4 (by rfl)) ?_
  refine RS.q rfl (QO.load ty3 (by rfl) (by repeat (first | exact List.Mem.head _ | refine List.Mem.tail _ ?_)) (ev_cell (i := i.toNat) (j := 4) (by omega) rfl)) ?_
  refine RS.q rfl (QO.move) ?_
  first | (refine RS.q rfl (QO.add (by rfl) (by rfl) (by omega) (by omega)) ?_) | (refine RS.q rfl (QO.ibin (by rfl) (by rfl) trivial) ?_)
  refine RS.qv rfl (QO.idx Tryd.underlying50 ty134 (by rfl) (by rfl) (by omega) (by omega)) ((congrArg (fun o => Value.pointer (some ⟨gq, o, none⟩)) (Nat.zero_add _))) ?_
  refine RS.q rfl (QO.fieldAddr fo134_4 (by rfl)) ?_
  refine RS.store1e ty3 rfl (by rfl) (by rfl) (by rfl) (trim_1 (l := l) (i := i.toNat) (b := (min (max by_ (-1099511627776)) 1099511627776)) (junk := jq) (by omega)) (by repeat (first | exact Upd.head | apply Upd.tail)) (by rw [List.length_append, evs_len]; omega) ?_
  refine RS.nil ?_
  refine thenC_n ?_
  refine CS.cut (X := List Ev) (11 :: 46 :: 47 :: 48 :: 49 :: 50 :: 51 :: 52 :: 53 :: 54 :: 55 :: 56 :: 57 :: 58 :: 59 :: 60 :: 61 :: 62 :: 63 :: 64 :: 65 :: 66 :: 67 :: 68 :: 69 :: 70 :: 71 :: 72 :: 73 :: 74 :: 75 :: 76 :: []) (fun l2 => []) (fun l2 => [⟨gq, 134, evs l2 ++ jq⟩, ⟨g4, 52, [sv t, iv rate, .slice (some ⟨gq, 0, none⟩) n cq]⟩, ⟨g8, 52, [Value.string ByteArray.empty, iv 0, .slice none 0 0]⟩]) (fun l2 => l2 = (if tr = true then trimEL l i.toNat (min (max by_ (-1099511627776)) 1099511627776) else slipL l i.toNat (min (max by_ (-1099511627776)) 1099511627776))) ?_ ?_
  · refine CS.seq ?_
    refine CS.region ?_
    refine RS.q rfl (QO.move) ?_
    refine RS.q rfl (QO.not (by rfl)) ?_
    refine RS.nil ?_
    refine thenC_n ?_
    refine CS.cond (by rfl) (fun hb3 => ?_) (fun hb3 => ?_)
    · have hb3p := Eq.mp (Bool.not_eq_true' _) hb3
      refine CS.region ?_
      refine RS.q rfl (QO.fieldAddr fo52_2 (by rfl)) ?_
      first | (refine RS.q rfl (QO.load ty50 (by rfl) (by repeat (first | exact List.Mem.head _ | refine List.Mem.tail _ ?_)) (by rfl)) ?_) | (refine RS.q rfl (QO.loadO ty50 (by rfl) (by assumption)) ?_) | (refine RS.q rfl (QO.load ty50 (by rfl) (by repeat (first | exact List.Mem.head _ | refine List.Mem.tail _ ?_)) (by assumption)) ?_)
      refine RS.q rfl (QO.move) ?_
      refine RS.qv rfl (QO.idx Tryd.underlying50 ty134 (by rfl) (by rfl) (by omega) (by omega)) ((congrArg (fun o => Value.pointer (some ⟨gq, o, none⟩)) (Nat.zero_add _))) ?_
      refine RS.q rfl (QO.fieldAddr fo134_3 (by rfl)) ?_
      refine RS.q rfl (QO.load ty3 (by rfl) (by repeat (first | exact List.Mem.head _ | refine List.Mem.tail _ ?_)) (ev_cell (l := trimK l i.toNat (min (max by_ (-1099511627776)) 1099511627776) (i.toNat + 1)) (i := i.toNat) (j := 3) (v := iv (l.getD i.toNat default).inn) (by rw [trimK_len]; omega) (by rw [trimK_at (by omega), if_pos (by omega)]; unfold trimE; rw [if_pos rfl]; rfl))) ?_
      refine RS.q rfl (QO.move) ?_
      first | (refine RS.q rfl (QO.add (by rfl) (by rfl) (by omega) (by omega)) ?_) | (refine RS.q rfl (QO.ibin (by rfl) (by rfl) trivial) ?_)
      refine RS.qv rfl (QO.idx Tryd.underlying50 ty134 (by rfl) (by rfl) (by omega) (by omega)) ((congrArg (fun o => Value.pointer (some ⟨gq, o, none⟩)) (Nat.zero_add _))) ?_
      refine RS.q rfl (QO.fieldAddr fo134_3 (by rfl)) ?_
      refine RS.store1e ty3 rfl (by rfl) (by rfl) (by rfl) (slip_3 (l := l) (i := i.toNat) (b := (min (max by_ (-1099511627776)) 1099511627776)) (junk := jq) (by omega)) (by repeat (first | exact Upd.head | apply Upd.tail)) (by rw [List.length_append, evs_len, trimK_len]; omega) ?_
      refine RS.nil ?_
      refine cutQ_n (by intro t ht; repeat (first | with_reducible exact rfl | exact frame_puts ht (frame_mix ht) _ rfl | (refine frame_put rfl ht ?_) | (refine frame_puts ht ?_ _ rfl) | exact frame_mix ht | (refine frame_mix2 rfl ht ?_) | exact rfl)) ?_
      exact ⟨_, (by rw [if_neg (by simp_all)]), (by repeat (first | exact kn_nil | refine kn_cons (by rfl) ?_)), (by repeat (first | exact List.Sublist.refl _ | exact List.nil_sublist _ | refine List.Sublist.cons_cons _ ?_ | refine List.Sublist.cons _ ?_ | exact Sbp.refl | exact Sbp.nil | refine Sbp.cons (by repeat (first | exact Rem.head | apply Rem.tail)) ?_ | exact Sbp.app | refine Sbp.skip ?_))⟩
    have hb3p := Eq.mp (Bool.not_eq_false' _) hb3
    refine CS.seq ?_
    refine CS.region ?_
    refine RS.q rfl (QO.move) ?_
    first | (refine RS.qv rfl (QO.add (by rfl) (by rfl) (by omega) (by omega)) (congrArg iv (show i + 1 = ((i.toNat + 1 : Nat) : Int) by omega)) ?_) | (refine RS.qv rfl (QO.ibin (by rfl) (by rfl) trivial) (congrArg iv (show i + 1 = ((i.toNat + 1 : Nat) : Int) by omega)) ?_)
    refine RS.q rfl (QO.assign) ?_
    refine RS.nil ?_
    refine thenC_n ?_
    refine CS.block ?_
    refine CS.loop (X := Nat) (11 :: 60 :: 61 :: 62 :: 63 :: 64 :: 65 :: 66 :: 67 :: 68 :: 69 :: 70 :: 71 :: 72 :: 73 :: 74 :: 75 :: 76 :: []) (fun k => [(11, iv (k : Int))]) (fun k => [⟨gq, 134, evs (trimK l i.toNat (min (max by_ (-1099511627776)) 1099511627776) k) ++ jq⟩, ⟨g4, 52, [sv t, iv rate, .slice (some ⟨gq, 0, none⟩) n cq]⟩, ⟨g8, 52, [Value.string ByteArray.empty, iv 0, .slice none 0 0]⟩]) (fun k => i.toNat + 1 ≤ k ∧ k ≤ n) (fun k => n - k) (i.toNat + 1) ⟨Nat.le_refl _, by omega⟩ ?_ ?_ ?_
    · exact (by repeat (first | exact kn_nil | refine kn_cons (by rfl) ?_))
    · exact (by repeat (first | exact List.Sublist.refl _ | exact List.nil_sublist _ | refine List.Sublist.cons_cons _ ?_ | refine List.Sublist.cons _ ?_ | exact Sbp.refl | exact Sbp.nil | refine Sbp.cons (by repeat (first | exact Rem.head | apply Rem.tail)) ?_ | exact Sbp.app | refine Sbp.skip ?_))
    intro k gj12 hz
    obtain ⟨hk1, hk2⟩ := hz
    refine CS.seq ?_
    refine CS.seq ?_
    refine CS.region ?_
    refine RS.q rfl (QO.move) ?_
    refine RS.q rfl (QO.fieldAddr fo52_2 (by rfl)) ?_
    first | (refine RS.q rfl (QO.load ty50 (by rfl) (by repeat (first | exact List.Mem.head _ | refine List.Mem.tail _ ?_)) (by rfl)) ?_) | (refine RS.q rfl (QO.loadO ty50 (by rfl) (by assumption)) ?_) | (refine RS.q rfl (QO.load ty50 (by rfl) (by repeat (first | exact List.Mem.head _ | refine List.Mem.tail _ ?_)) (by assumption)) ?_)
    refine RS.q rfl (QO.lenS Tryd.underlying50 (by rfl)) ?_
    refine RS.q rfl (QO.lss (by rfl) (by rfl)) ?_
    refine RS.nil ?_
    refine thenC_n ?_
    refine CS.cond (by rfl) (fun hb4 => ?_) (fun hb4 => ?_)
    · have hb4p := of_decide_eq_true hb4
      refine CS.skip ?_
      refine thenC_n ?_
      refine CS.seq ?_
      refine CS.block ?_
      refine CS.region ?_
      have hej := hrg (l.getD k default) (by rw [List.getD_eq_getElem?_getD, List.getElem?_eq_getElem (by omega)]; exact List.getElem_mem _)
      refine RS.q rfl (QO.fieldAddr fo52_2 (by rfl)) ?_
      first | (refine RS.q rfl (QO.load ty50 (by rfl) (by repeat (first | exact List.Mem.head _ | refine List.Mem.tail _ ?_)) (by rfl)) ?_) | (refine RS.q rfl (QO.loadO ty50 (by rfl) (by assumption)) ?_) | (refine RS.q rfl (QO.load ty50 (by rfl) (by repeat (first | exact List.Mem.head _ | refine List.Mem.tail _ ?_)) (by assumption)) ?_)
      refine RS.q rfl (QO.move) ?_
      refine RS.qv rfl (QO.idx Tryd.underlying50 ty134 (by rfl) (by rfl) (by omega) (by omega)) ((congrArg (fun o => Value.pointer (some ⟨gq, o, none⟩)) (Nat.zero_add _))) ?_
      refine RS.q rfl (QO.fieldAddr fo134_5 (by rfl)) ?_
      refine RS.q rfl (QO.load ty3 (by rfl) (by repeat (first | exact List.Mem.head _ | refine List.Mem.tail _ ?_)) (ev_cell (l := trimK l i.toNat (min (max by_ (-1099511627776)) 1099511627776) k) (i := k) (j := 5) (v := iv (l.getD k default).at_) (by rw [trimK_len]; omega) (by rw [trimK_at (by omega), if_neg (by omega)]; rfl))) ?_
      refine RS.q rfl (QO.move) ?_
      first | (refine RS.q rfl (QO.add (by rfl) (by rfl) (by omega) (by omega)) ?_) | (refine RS.q rfl (QO.ibin (by rfl) (by rfl) trivial) ?_)
      refine RS.qv rfl (QO.idx Tryd.underlying50 ty134 (by rfl) (by rfl) (by omega) (by omega)) ((congrArg (fun o => Value.pointer (some ⟨gq, o, none⟩)) (Nat.zero_add _))) ?_
      refine RS.q rfl (QO.fieldAddr fo134_5 (by rfl)) ?_
      refine RS.store1e ty3 rfl (by rfl) (by rfl) (by rfl) (trim_2 (l := l) (i := i.toNat) (k := k) (by omega) (by omega)) (by repeat (first | exact Upd.head | apply Upd.tail)) (by rw [List.length_append, evs_len, trimK_len]; omega) ?_
      refine RS.nil ?_
      refine blockC_n ?_
      refine thenC_n ?_
      refine CS.region ?_
      refine RS.q rfl (QO.move) ?_
      first | (refine RS.qv rfl (QO.add (by rfl) (by rfl) (by omega) (by omega)) (congrArg iv (show (k : Int) + 1 = ((k + 1 : Nat) : Int) by omega)) ?_) | (refine RS.qv rfl (QO.ibin (by rfl) (by rfl) trivial) (congrArg iv (show (k : Int) + 1 = ((k + 1 : Nat) : Int) by omega)) ?_)
      refine RS.q rfl (QO.assign) ?_
      refine RS.nil ?_
      refine loopQ_n (by intro t ht; repeat (first | with_reducible exact rfl | exact frame_puts ht (frame_mix ht) _ rfl | (refine frame_put rfl ht ?_) | (refine frame_puts ht ?_ _ rfl) | exact frame_mix ht | (refine frame_mix2 rfl ht ?_) | exact rfl)) ?_
      exact ⟨k + 1, ⟨by omega, by omega⟩, by omega, (by repeat (first | exact kn_nil | refine kn_cons (by rfl) ?_)), (by repeat (first | exact List.Sublist.refl _ | exact List.nil_sublist _ | refine List.Sublist.cons_cons _ ?_ | refine List.Sublist.cons _ ?_ | exact Sbp.refl | exact Sbp.nil | refine Sbp.cons (by repeat (first | exact Rem.head | apply Rem.tail)) ?_ | exact Sbp.app | refine Sbp.skip ?_))⟩
    have hb4p := of_decide_eq_false hb4
    refine CS.exit ?_
    refine thenC_x ?_
    refine loopQ_x ?_
    refine blockC_x ?_
    refine cutQ_n (by intro t ht; repeat (first | with_reducible exact rfl | exact frame_puts ht (frame_mix ht) _ rfl | (refine frame_put rfl ht ?_) | (refine frame_puts ht ?_ _ rfl) | exact frame_mix ht | (refine frame_mix2 rfl ht ?_) | exact rfl)) ?_
    exact ⟨trimK l i.toNat (min (max by_ (-1099511627776)) 1099511627776) k, (by rw [if_pos (by simp_all)]; unfold trimEL; rw [show l.length = k by omega]), (by repeat (first | exact kn_nil | refine kn_cons (by rfl) ?_)), (by repeat (first | exact List.Sublist.refl _ | exact List.nil_sublist _ | refine List.Sublist.cons_cons _ ?_ | refine List.Sublist.cons _ ?_ | exact Sbp.refl | exact Sbp.nil | refine Sbp.cons (by repeat (first | exact Rem.head | apply Rem.tail)) ?_ | exact Sbp.app | refine Sbp.skip ?_))⟩
  intro l2 gj hz
  have hl2 := hz
  have hll : l2.length = n := by 
    rw [hl2]; split
    · rw [trimEL_len]; exact hl
    · rw [slipL_len]; exact hl
  have hrr : ∀ e ∈ l2, e.reel.length ≤ maxLen := by
    rw [hl2]; split
    · exact trimEL_reel hr
    · exact slipL_reel hr
  refine CS.seq ?_
  refine CS.seq ?_
  refine CS.region ?_
  first | (refine RS.q rfl (QO.loadB ty52 (by rfl) (by repeat (first | exact List.Mem.head _ | refine List.Mem.tail _ ?_)) (by rfl)) ?_) | (refine RS.q rfl (QO.loadA ty52 (by rfl) (by repeat (first | exact List.Mem.head _ | refine List.Mem.tail _ ?_)) (by rfl) (by rfl)) ?_) | (refine RS.q rfl (QO.loadOA ty52 (by rfl) (by assumption) (by rfl)) ?_)
  refine RS.call rfl (by rfl) ok39 (by rfl) (fun w ho => editsError t rate (some ⟨gq, 0, none⟩) n cq l2 _ ht hll (ES.blk ho (by first | exact List.Mem.head _ | exact List.Mem.tail _ (List.Mem.head _) | exact List.Mem.tail _ (List.Mem.tail _ (List.Mem.head _)))) hrr hm) ?_
  rintro _ _ ⟨rfl, rfl⟩
  refine RS.q rfl (QO.assign) ?_
  refine RS.nil ?_
  refine thenC_n ?_
  refine CS.seq ?_
  refine CS.region ?_
  refine RS.q rfl (QO.move) ?_
  refine RS.q rfl (QO.neq (by rfl) (by rfl)) ?_
  refine RS.nil ?_
  refine thenC_n ?_
  refine CS.cond (by rfl) (fun hb5 => ?_) (fun hb5 => ?_)
  · have hb5p := bne_iff_ne.1 hb5
    refine CS.seq ?_
    refine CS.region ?_
    refine RS.q rfl (QO.build ty52 pl52 (by rfl)) ?_
    refine RS.q rfl (QO.move) ?_
    first | refine RS.storeB ty52 (by rfl) (by rfl) (by rfl) (by rfl) (by rfl) (by repeat (first | exact Upd.head | apply Upd.tail)) (by rfl) ?_ | refine RS.storeP ty52 (by rfl) (by rfl) (by rfl) (by rfl) (by rfl) (by repeat (first | exact Upd.head | apply Upd.tail)) (by rfl) ?_
    refine RS.q rfl (QO.assign) ?_
    refine RS.nil ?_
    refine thenC_n ?_
    refine CS.ret ?_
    refine thenC_r ?_
    refine retQ.mk (H' := []) (.inr rfl) (RVs.cellA ty52 (by rfl) (by repeat (first | exact List.Mem.head _ | refine List.Mem.tail _ ?_)) (by rfl) (RVs.tmp (by rfl) RVs.nil)) (List.nil_sublist _) ?_
    subst hl2
    exact .inr (.inr (.inl ⟨by omega, by omega, by omega, by assumption, rfl, rfl⟩))
  have hb5p := of_bne_false hb5
  refine CS.skip ?_
  refine thenC_n ?_
  refine CS.seq ?_
  refine CS.region ?_
  first | (refine RS.q rfl (QO.loadB ty52 (by rfl) (by repeat (first | exact List.Mem.head _ | refine List.Mem.tail _ ?_)) (by rfl)) ?_) | (refine RS.q rfl (QO.loadA ty52 (by rfl) (by repeat (first | exact List.Mem.head _ | refine List.Mem.tail _ ?_)) (by rfl) (by rfl)) ?_) | (refine RS.q rfl (QO.loadOA ty52 (by rfl) (by assumption) (by rfl)) ?_)
  first | refine RS.storeB ty52 (by rfl) (by rfl) (by rfl) (by rfl) (by rfl) (by repeat (first | exact Upd.head | apply Upd.tail)) (by rfl) ?_ | refine RS.storeP ty52 (by rfl) (by rfl) (by rfl) (by rfl) (by rfl) (by repeat (first | exact Upd.head | apply Upd.tail)) (by rfl) ?_
  refine RS.q rfl (QO.assign) ?_
  refine RS.nil ?_
  refine thenC_n ?_
  refine CS.ret ?_
  refine retQ.mk (H' := [⟨gq, 134, evs l2 ++ jq⟩]) (.inr rfl) (RVs.cellA ty52 (by rfl) (by repeat (first | exact List.Mem.head _ | refine List.Mem.tail _ ?_)) (by rfl) (RVs.tmp (by rfl) RVs.nil)) (by repeat (first | exact List.Sublist.refl _ | exact List.nil_sublist _ | refine List.Sublist.cons_cons _ ?_ | refine List.Sublist.cons _ ?_ | exact Sbp.refl | exact Sbp.nil | refine Sbp.cons (by repeat (first | exact Rem.head | apply Rem.tail)) ?_ | exact Sbp.app | refine Sbp.skip ?_)) ?_
  subst hl2
  exact .inr (.inr (.inr ⟨by omega, by omega, by omega, by omega, gq, cq, jq, rfl, rfl, hcq, hcqx⟩))

end Go.Proofs.YtapcgokcfmklbaaDoor
