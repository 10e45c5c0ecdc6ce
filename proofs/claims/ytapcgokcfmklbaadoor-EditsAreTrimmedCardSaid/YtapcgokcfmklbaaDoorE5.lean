/-
  Contracts: conform.changed over a closure. Conditions: as each theorem says.
-/
import Derived.Test.YtapcgokcfmklbaaDoorE4
namespace Go.Proofs.YtapcgokcfmklbaaDoor
open Go Go.Proofs Go.RowKit

theorem ty52 : tyChk Tryd.prog 52 = some ([.string ByteArray.empty, .int .i64 0, .slice none 0 0], true, 48) := by kernel_rfl
theorem pl52 : places Tryd.prog 52 = some #[(0, 1), (1, 1), (2, 1)] := by kernel_rfl
theorem ok47 : callOK Tryd.prog 47 = true := by kernel_rfl
theorem ok85 : callOK Tryd.prog 85 = true := by kernel_rfl

theorem edE_len {t : List UInt8} {r : Int} {l : List Ev} (h : edE t r l = 0) : l.length ≤ 500 := by
  unfold edE at h
  split at h; · omega
  split at h; · omega
  split at h; · omega
  omega
theorem cutAt_6 {g i c n : Nat} (h : i < c) : Value.slice (cutAt g 0 i c 6) (n - i) (c - i) = Value.slice (some ⟨g, i * 6, none⟩) (n - i) (c - i) := by
  unfold cutAt; first | (rw [if_pos (by omega), Nat.zero_add]) | (rw [if_neg (by omega), Nat.zero_add])
def noL (e : Int) : Value := .tuple #[.agg #[sv [], iv 0, .slice none 0 0], iv e]

set_option maxRecDepth 100000 in
theorem changed_ (t : List UInt8) (rate : Int) (A : Option Addr) (n c : Nat) (l l2 : List Ev) (i : Int) (fid : FuncId) (cp : Array Value) (W : World) (ht : t.length ≤ maxLen) (hl : l.length = n) (hES : ES W A l) (hr : ∀ e ∈ l, e.reel.length ≤ maxLen) (hm : n ≤ maxLen) (hl2 : l2.length = n) (hr2 : ∀ e ∈ l2, e.reel.length ≤ maxLen) (hok : callOK Tryd.prog fid = true) (hcl : 0 ≤ i → i < n → edE t rate l = 0 → ∀ (g c2 : Nat) (junk : List Value) (HR : HL), n - i.toNat ≤ c2 → FnH Tryd.prog fid (Value.slice (some ⟨g, i.toNat * 6, none⟩) (n - i.toNat) c2 :: cp.toList).toArray W (⟨g, 134, evs l ++ junk⟩ :: HR) (fun v H => H = ⟨g, 134, evs l2 ++ junk⟩ :: HR)) : Fn_ Tryd.prog 83 #[.agg #[sv t, iv rate, .slice A n c], iv i, .func (.func fid) #[] cp] W (fun v H => (edE t rate l ≠ 0 ∧ v = noL (edE t rate l) ∧ H = []) ∨ (edE t rate l = 0 ∧ (i < 0 ∨ (n : Int) ≤ i) ∧ v = noL 11 ∧ H = []) ∨ (edE t rate l = 0 ∧ 0 ≤ i ∧ i < n ∧ edE t rate l2 ≠ 0 ∧ v = noL (edE t rate l2) ∧ H = []) ∨ (edE t rate l = 0 ∧ 0 ≤ i ∧ i < n ∧ edE t rate l2 = 0 ∧ ∃ g cap junk, v = .tuple #[.agg #[sv t, iv rate, .slice (some ⟨g, 0, none⟩) n cap], iv 0] ∧ H = [⟨g, 134, evs l2 ++ junk⟩] ∧ n ≤ cap ∧ cap ≤ maxLen)) := by
  refine Fn_.intro Tryd.func83 rfl rfl (by rfl) ?_
  refine CS.seq ?_
  refine CS.region ?_
  refine RS.box rfl (by rfl) (by rfl) ?_
  intro g3
  refine RS.alloc rfl ty52 ?_
  intro g6
  refine RS.q rfl (QO.assign) ?_
  refine RS.nil ?_
  refine thenC_n ?_
  refine CS.seq ?_
  refine CS.seq ?_
  refine CS.region ?_
  first | (refine RS.q rfl (QO.loadB ty52 (by rfl) (by repeat (first | exact List.Mem.head _ | refine List.Mem.tail _ ?_)) (by rfl)) ?_) | (refine RS.q rfl (QO.loadA ty52 (by rfl) (by repeat (first | exact List.Mem.head _ | refine List.Mem.tail _ ?_)) (by rfl) (by rfl)) ?_) | (refine RS.q rfl (QO.loadOA ty52 (by rfl) (by assumption) (by rfl)) ?_)
  refine RS.call rfl (by rfl) ok47 (by rfl) (fun w ho => checkList t rate A n c l _ ht hl (hES.own ho) hr hm) ?_
  rintro _ _ ⟨rfl, rfl⟩
  refine RS.q rfl (QO.assign) ?_
  refine RS.nil ?_
  refine thenC_n ?_
  refine CS.seq ?_
  refine CS.region ?_
  refine RS.q rfl (QO.move) ?_
  refine RS.q rfl (QO.neq (by rfl) (by rfl)) ?_
  refine RS.nil ?_
  refine thenC_n ?_
  refine CS.cond (by rfl) (fun hb0 => ?_) (fun hb0 => ?_)
  · have hb0p := bne_iff_ne.1 hb0
    refine CS.seq ?_
    refine CS.region ?_
    refine RS.q rfl (QO.build ty52 pl52 (by rfl)) ?_
    refine RS.q rfl (QO.move) ?_
    first | refine RS.storeB ty52 (by rfl) (by rfl) (by rfl) (by rfl) (by rfl) (by repeat (first | exact Upd.head | apply Upd.tail)) (by rfl) ?_ | refine RS.storeP ty52 (by rfl) (by rfl) (by rfl) (by rfl) (by rfl) (by repeat (first | exact Upd.head | apply Upd.tail)) (by rfl) ?_
    refine RS.q rfl (QO.assign) ?_
    refine RS.nil ?_
    refine thenC_n ?_
    refine CS.ret ?_
    refine thenC_r ?_
    refine retQ.mk (H' := []) (.inr rfl) (RVs.cellA ty52 (by rfl) (by repeat (first | exact List.Mem.head _ | refine List.Mem.tail _ ?_)) (by rfl) (RVs.tmp (by rfl) RVs.nil)) (List.nil_sublist _) ?_
    exact .inl ⟨hb0p, rfl, rfl⟩
  · have hb0p := of_bne_false hb0
    refine CS.skip ?_
    refine thenC_n ?_
    refine CS.seq ?_
    refine CS.seq ?_
    refine CS.region ?_
    refine RS.q rfl (QO.move) ?_
    refine RS.q rfl (QO.lss (by rfl) (by rfl)) ?_
    refine RS.q rfl (QO.move) ?_
    refine RS.split (dj := 18) (by rfl) (fun hb1 => ?_) (fun hb1 => ?_)
    · have hb1p := of_decide_eq_true hb1
      refine RS.off (dj := 18) rfl (.inl (congrArg Value.bool hb1)) (fun _ => rfl) rfl ?_
      refine RS.off (dj := 18) rfl (.inl (congrArg Value.bool hb1)) (fun _ => rfl) rfl ?_
      refine RS.off (dj := 18) rfl (.inl (congrArg Value.bool hb1)) (fun _ => rfl) rfl ?_
      refine RS.off (dj := 18) rfl (.inl (congrArg Value.bool hb1)) (fun _ => rfl) rfl ?_
      refine RS.off (dj := 18) rfl (.inl (congrArg Value.bool hb1)) (fun _ => rfl) rfl ?_
      refine RS.q rfl (QO.pickT (by rfl) hb1 (by rfl)) ?_
      refine RS.nil ?_
      refine thenC_n ?_
      refine CS.condT (by rfl) rfl ?_
      refine CS.seq ?_
      refine CS.region ?_
      refine RS.q rfl (QO.build ty52 pl52 (by rfl)) ?_
      first | refine RS.storeB ty52 (by rfl) (by rfl) (by rfl) (by rfl) (by rfl) (by repeat (first | exact Upd.head | apply Upd.tail)) (by rfl) ?_ | refine RS.storeP ty52 (by rfl) (by rfl) (by rfl) (by rfl) (by rfl) (by repeat (first | exact Upd.head | apply Upd.tail)) (by rfl) ?_
      refine RS.q rfl (QO.assign) ?_
      refine RS.nil ?_
      refine thenC_n ?_
      refine CS.ret ?_
      refine thenC_r ?_
      refine retQ.mk (H' := []) (.inr rfl) (RVs.cellA ty52 (by rfl) (by repeat (first | exact List.Mem.head _ | refine List.Mem.tail _ ?_)) (by rfl) (RVs.tmp (by rfl) RVs.nil)) (List.nil_sublist _) ?_
      exact .inr (.inl ⟨by omega, by omega, rfl, rfl⟩)
    · have hb1p := of_decide_eq_false hb1
      refine RS.on (dj := 18) rfl (congrArg Value.bool hb1) ?_
      refine RS.q rfl (QO.move) ?_
      refine RS.on (dj := 18) rfl (congrArg Value.bool hb1) ?_
      refine RS.q rfl (QO.fieldAddr fo52_2 (by rfl)) ?_
      refine RS.on (dj := 18) rfl (congrArg Value.bool hb1) ?_
      first | (refine RS.q rfl (QO.load ty50 (by rfl) (by repeat (first | exact List.Mem.head _ | refine List.Mem.tail _ ?_)) (by rfl)) ?_) | (refine RS.q rfl (QO.loadO ty50 (by rfl) (by assumption)) ?_) | (refine RS.q rfl (QO.load ty50 (by rfl) (by repeat (first | exact List.Mem.head _ | refine List.Mem.tail _ ?_)) (by assumption)) ?_)
      refine RS.on (dj := 18) rfl (congrArg Value.bool hb1) ?_
      refine RS.q rfl (QO.lenS Tryd.underlying50 (by rfl)) ?_
      refine RS.on (dj := 18) rfl (congrArg Value.bool hb1) ?_
      refine RS.q rfl (QO.geq (by rfl) (by rfl)) ?_
      refine RS.q rfl (QO.pickF (by rfl) hb1 (by rfl)) ?_
      refine RS.nil ?_
      refine thenC_n ?_
      refine CS.cond (by rfl) (fun hb2 => ?_) (fun hb2 => ?_)
      · have hb2p := of_decide_eq_true hb2
        refine CS.seq ?_
        refine CS.region ?_
        refine RS.q rfl (QO.build ty52 pl52 (by rfl)) ?_
        first | refine RS.storeB ty52 (by rfl) (by rfl) (by rfl) (by rfl) (by rfl) (by repeat (first | exact Upd.head | apply Upd.tail)) (by rfl) ?_ | refine RS.storeP ty52 (by rfl) (by rfl) (by rfl) (by rfl) (by rfl) (by repeat (first | exact Upd.head | apply Upd.tail)) (by rfl) ?_
        refine RS.q rfl (QO.assign) ?_
        refine RS.nil ?_
        refine thenC_n ?_
        refine CS.ret ?_
        refine thenC_r ?_
        refine retQ.mk (H' := []) (.inr rfl) (RVs.cellA ty52 (by rfl) (by repeat (first | exact List.Mem.head _ | refine List.Mem.tail _ ?_)) (by rfl) (RVs.tmp (by rfl) RVs.nil)) (List.nil_sublist _) ?_
        exact .inr (.inl ⟨by omega, by omega, rfl, rfl⟩)
      · have hb2p := of_decide_eq_false hb2
        refine CS.skip ?_
        refine thenC_n ?_
        refine CS.seq ?_
        refine CS.region ?_
        refine RS.q rfl (QO.fieldAddr fo52_2 (by rfl)) ?_
        first | (refine RS.q rfl (QO.load ty50 (by rfl) (by repeat (first | exact List.Mem.head _ | refine List.Mem.tail _ ?_)) (by rfl)) ?_) | (refine RS.q rfl (QO.loadO ty50 (by rfl) (by assumption)) ?_) | (refine RS.q rfl (QO.load ty50 (by rfl) (by repeat (first | exact List.Mem.head _ | refine List.Mem.tail _ ?_)) (by assumption)) ?_)
        refine RS.call rfl (by rfl) ok85 (by rfl) (fun w ho => clone_ A n c l _ hl (hES.own ho) (by omega) (by have := edE_len (t := t) (r := rate) (l := l) (by omega); omega)) ?_
        rintro _ _ ⟨gq, cq, jq, rfl, rfl, hcq, hcqx⟩
        refine RS.q rfl (QO.fieldAddr fo52_2 (by rfl)) ?_
        refine RS.store1 ty50 rfl (by rfl) (by rfl) (by rfl) (by repeat (first | exact Upd.head | apply Upd.tail)) (by first | (simp; done) | (simp; omega) | omega) ?_
        refine RS.nil ?_
        refine thenC_n ?_
        refine CS.seq ?_
        refine CS.region ?_
        refine RS.q rfl (QO.move) ?_
        refine RS.q rfl (QO.fieldAddr fo52_2 (by rfl)) ?_
        first | (refine RS.q rfl (QO.load ty50 (by rfl) (by repeat (first | exact List.Mem.head _ | refine List.Mem.tail _ ?_)) (by rfl)) ?_) | (refine RS.q rfl (QO.loadO ty50 (by rfl) (by assumption)) ?_) | (refine RS.q rfl (QO.load ty50 (by rfl) (by repeat (first | exact List.Mem.head _ | refine List.Mem.tail _ ?_)) (by assumption)) ?_)
        refine RS.q rfl (QO.move) ?_
        refine RS.qv rfl (QO.cutLo Tryd.underlying50 ty134 (by rfl) (by rfl) (by omega) (by omega)) ((cutAt_6 (by omega))) ?_
        refine RS.callH (⟨gq, 134, evs l ++ jq⟩ :: ⟨g3, 52, [sv t, iv rate, .slice (some ⟨gq, 0, none⟩) n cq]⟩ :: ⟨g6, 52, [Value.string ByteArray.empty, iv 0, .slice none 0 0]⟩ :: []) rfl (by rfl) hok (by rfl) (by repeat (first | exact List.Sublist.refl _ | exact List.nil_sublist _ | refine List.Sublist.cons_cons _ ?_ | refine List.Sublist.cons _ ?_ | exact Sbp.refl | exact Sbp.nil | refine Sbp.cons (by repeat (first | exact Rem.head | apply Rem.tail)) ?_ | exact Sbp.app | refine Sbp.skip ?_)) (fun w ho => hcl (by omega) (by omega) (by omega) gq (cq - i.toNat) jq _ (by omega)) ?_
        rintro _ _ rfl
        refine RS.nil ?_
        refine thenC_n ?_
        refine CS.seq ?_
        refine CS.seq ?_
        refine CS.region ?_
        first | (refine RS.q rfl (QO.loadB ty52 (by rfl) (by repeat (first | exact List.Mem.head _ | refine List.Mem.tail _ ?_)) (by rfl)) ?_) | (refine RS.q rfl (QO.loadA ty52 (by rfl) (by repeat (first | exact List.Mem.head _ | refine List.Mem.tail _ ?_)) (by rfl) (by rfl)) ?_) | (refine RS.q rfl (QO.loadOA ty52 (by rfl) (by assumption) (by rfl)) ?_)
        refine RS.call rfl (by rfl) ok47 (by rfl) (fun w ho => checkList t rate (some ⟨gq, 0, none⟩) n cq l2 _ ht hl2 (ES.blk ho (by first | exact List.Mem.head _ | exact List.Mem.tail _ (List.Mem.head _) | exact List.Mem.tail _ (List.Mem.tail _ (List.Mem.head _)))) hr2 hm) ?_
        rintro _ _ ⟨rfl, rfl⟩
        refine RS.q rfl (QO.assign) ?_
        refine RS.nil ?_
        refine thenC_n ?_
        refine CS.seq ?_
        refine CS.region ?_
        refine RS.q rfl (QO.move) ?_
        refine RS.q rfl (QO.neq (by rfl) (by rfl)) ?_
        refine RS.nil ?_
        refine thenC_n ?_
        refine CS.cond (by rfl) (fun hb3 => ?_) (fun hb3 => ?_)
        · have hb3p := bne_iff_ne.1 hb3
          refine CS.seq ?_
          refine CS.region ?_
          refine RS.q rfl (QO.build ty52 pl52 (by rfl)) ?_
          refine RS.q rfl (QO.move) ?_
          first | refine RS.storeB ty52 (by rfl) (by rfl) (by rfl) (by rfl) (by rfl) (by repeat (first | exact Upd.head | apply Upd.tail)) (by rfl) ?_ | refine RS.storeP ty52 (by rfl) (by rfl) (by rfl) (by rfl) (by rfl) (by repeat (first | exact Upd.head | apply Upd.tail)) (by rfl) ?_
          refine RS.q rfl (QO.assign) ?_
          refine RS.nil ?_
          refine thenC_n ?_
          refine CS.ret ?_
          refine thenC_r ?_
          refine retQ.mk (H' := []) (.inr rfl) (RVs.cellA ty52 (by rfl) (by repeat (first | exact List.Mem.head _ | refine List.Mem.tail _ ?_)) (by rfl) (RVs.tmp (by rfl) RVs.nil)) (List.nil_sublist _) ?_
          exact .inr (.inr (.inl ⟨by omega, by omega, by omega, hb3p, rfl, rfl⟩))
        · have hb3p := of_bne_false hb3
          refine CS.skip ?_
          refine thenC_n ?_
          refine CS.seq ?_
          refine CS.region ?_
          first | (refine RS.q rfl (QO.loadB ty52 (by rfl) (by repeat (first | exact List.Mem.head _ | refine List.Mem.tail _ ?_)) (by rfl)) ?_) | (refine RS.q rfl (QO.loadA ty52 (by rfl) (by repeat (first | exact List.Mem.head _ | refine List.Mem.tail _ ?_)) (by rfl) (by rfl)) ?_) | (refine RS.q rfl (QO.loadOA ty52 (by rfl) (by assumption) (by rfl)) ?_)
          first | refine RS.storeB ty52 (by rfl) (by rfl) (by rfl) (by rfl) (by rfl) (by repeat (first | exact Upd.head | apply Upd.tail)) (by rfl) ?_ | refine RS.storeP ty52 (by rfl) (by rfl) (by rfl) (by rfl) (by rfl) (by repeat (first | exact Upd.head | apply Upd.tail)) (by rfl) ?_
          refine RS.q rfl (QO.assign) ?_
          refine RS.nil ?_
          refine thenC_n ?_
          refine CS.ret ?_
          refine retQ.mk (H' := [⟨gq, 134, evs l2 ++ jq⟩]) (.inr rfl) (RVs.cellA ty52 (by rfl) (by repeat (first | exact List.Mem.head _ | refine List.Mem.tail _ ?_)) (by rfl) (RVs.tmp (by rfl) RVs.nil)) (by repeat (first | exact List.Sublist.refl _ | exact List.nil_sublist _ | refine List.Sublist.cons_cons _ ?_ | refine List.Sublist.cons _ ?_ | exact Sbp.refl | exact Sbp.nil | refine Sbp.cons (by repeat (first | exact Rem.head | apply Rem.tail)) ?_ | exact Sbp.app | refine Sbp.skip ?_)) ?_
          exact .inr (.inr (.inr ⟨by omega, by omega, by omega, by omega, gq, cq, jq, rfl, rfl, hcq, hcqx⟩))

end Go.Proofs.YtapcgokcfmklbaaDoor
