/-
  Contracts: a frame read by the reference. Conditions: as each theorem says.
-/
import Derived.Test.YtapcgokcfmklbaaDoorP3
namespace Go.Proofs.YtapcgokcfmklbaaDoor
open Go Go.Proofs Go.RowKit

theorem ty139 : tyChk Tryd.prog 139 = some ([.int .i64 0, .int .i64 0, .int .i64 0, .int .i64 0], true, 32) := by kernel_rfl
theorem pl31 : places Tryd.prog 31 = some #[(0, 1), (1, 1), (2, 1), (3, 1)] := by kernel_rfl
theorem ok67 : callOK Tryd.prog 67 = true := by kernel_rfl
theorem ok119 : callOK Tryd.prog 119 = true := by kernel_rfl
theorem ok121 : callOK Tryd.prog 121 = true := by kernel_rfl
theorem ok122 : callOK Tryd.prog 122 = true := by kernel_rfl

theorem sl3 {a b c : B} (K : HL) : K.Sublist (a :: b :: c :: K) := .cons _ (.cons _ (.cons _ (List.Sublist.refl _)))
theorem ints4 (f : Nat → Int) {i : Nat} (hi : i < 4) : [iv (f 0), iv (f 1), iv (f 2), iv (f 3)][i]? = some (iv (f i)) := by
  match i, hi with
  | 0, _ => rfl
  | 1, _ => rfl
  | 2, _ => rfl
  | 3, _ => rfl
theorem row_to {v : Value} {n n' : Nat} {xs xs' : List Value} {H : HL} (h : Row 36 1 v n xs H) (hn : n = n') (hx : xs = xs') : Row 36 1 v n' xs' H := by subst hn hx; exact h
theorem pr_err2 {l : List UInt8} {n e n' e' : Int} (h : prsR l = (n, e)) (he : e ≠ 0) (hn : n' = n) (he' : e' = e) : PrR l (.tuple #[.agg #[iv 0, iv 0, iv 0, iv 0, .slice none 0 0], iv n', iv e']) [] := by
  subst hn he'; exact pr_err h he
theorem splitL (l : List UInt8) (m : Int) (W : World) (hm : W.cell? ⟨1, 0, none⟩ = some (.int .i64 m)) (hl : l.length < 4294967281) :
    Fn_ Tryd.prog 120 #[sv l, sv [10]] W (fun v H => ∃ g, v = .slice (some ⟨g, 0, none⟩) (lns l).length (lns l).length ∧ H = [⟨g, 9, (lns l).map sv⟩]) := splitC l [10] m W hm hl (by simp)
theorem badE_r {l : List UInt8} {W e : Int} {i : Nat} (h : i + 1 < (lns l).length) (he : rowE (ln l i) W = e) : badE l W i = e := (badE_T h).trans he

set_option maxRecDepth 100000 in
theorem parseNo (i e : Int) (W : World) : Fn_ Tryd.prog 119 #[iv i, iv e] W (fun v H => v = .tuple #[.agg #[iv 0, iv 0, iv 0, iv 0, .slice none 0 0], iv i, iv e] ∧ H = []) := by
  refine Fn_.intro Tryd.func119 rfl rfl (by rfl) ?_
  refine CS.seq ?_
  refine CS.region ?_
  refine RS.alloc rfl ty34 ?_
  intro g4
  refine RS.q rfl (QO.assign) ?_
  refine RS.q rfl (QO.assign) ?_
  refine RS.nil ?_
  refine thenC_n ?_
  refine CS.seq ?_
  refine CS.region ?_
  refine RS.q rfl (QO.build ty34 pl34 (by rfl)) ?_
  refine RS.q rfl (QO.move) ?_
  refine RS.q rfl (QO.move) ?_
  first | refine RS.storeB ty34 (by rfl) (by rfl) (by rfl) (by rfl) (by rfl) (by repeat (first | exact Upd.head | apply Upd.tail)) (by rfl) ?_ | refine RS.storeP ty34 (by rfl) (by rfl) (by rfl) (by rfl) (by rfl) (by repeat (first | exact Upd.head | apply Upd.tail)) (by rfl) ?_
  refine RS.q rfl (QO.assign) ?_
  refine RS.q rfl (QO.assign) ?_
  refine RS.nil ?_
  refine thenC_n ?_
  refine CS.ret ?_
  refine retQ.mk (H' := []) (.inr rfl) (RVs.cellA ty34 (by rfl) (by repeat (first | exact List.Mem.head _ | refine List.Mem.tail _ ?_)) (by rfl) (RVs.tmp (by rfl) (RVs.tmp (by rfl) RVs.nil))) (List.nil_sublist _) ?_
  exact ⟨rfl, rfl⟩

set_option maxHeartbeats 4000000 in
set_option maxRecDepth 100000 in
theorem rparse_ (l : List UInt8) (W : World) (m : Int) (hm : W.cell? ⟨1, 0, none⟩ = some (.int .i64 m)) (te3 : TypeId) (pe3 : Value) (te4 : TypeId) (pe4 : Value) (ht : Lib.TabIs Tryd.prog W "internal/strconv.uint64pow10" .u64 Lib.pow10Tab) (h3 : W.cell? ⟨3, 0, none⟩ = some (.iface te3 pe3)) (h4 : W.cell? ⟨4, 0, none⟩ = some (.iface te4 pe4)) : Fn_ Tryd.prog 54 #[sv l] W (fun v H => PrR l v H) := by
  have hlp := lns_pos l
  have hlm : (lns l).length ≤ l.length + 1 := pcs_many nl
  refine Fn_.intro Tryd.func54 rfl rfl (by rfl) ?_
  refine CS.seq ?_
  refine CS.region ?_
  refine RS.alloc rfl ty34 ?_
  intro g2
  refine RS.q rfl (QO.assign) ?_
  refine RS.q rfl (QO.assign) ?_
  refine RS.nil ?_
  refine thenC_n ?_
  refine CS.seq ?_
  refine CS.region ?_
  refine RS.q rfl (QO.assign) ?_
  refine RS.nil ?_
  refine thenC_n ?_
  refine CS.seq ?_
  refine CS.seq ?_
  refine CS.region ?_
  refine RS.q rfl (QO.move) ?_
  refine RS.q rfl (QO.lenStr Tryd.underlying9 (by rfl)) ?_
  refine RS.q rfl (QO.gtr (by rfl) (by rfl)) ?_
  refine RS.nil ?_
  refine thenC_n ?_
  refine CS.cond (by rfl) (fun hb0 => ?_) (fun hb0 => ?_)
  · have hb0p := of_decide_eq_true hb0
    refine CS.seq ?_
    refine CS.region ?_
    refine RS.q rfl (QO.move) ?_
    refine RS.call rfl (by rfl) ok119 (by rfl) (fun w ho => parseNo 0 4 _) ?_
    rintro _ _ ⟨rfl, rfl⟩
    refine RS.q rfl (QO.extract (by rfl) (by rfl)) ?_
    refine RS.q rfl (QO.extract (by rfl) (by rfl)) ?_
    refine RS.q rfl (QO.extract (by rfl) (by rfl)) ?_
    first | refine RS.storeB ty34 (by rfl) (by rfl) (by rfl) (by rfl) (by rfl) (by repeat (first | exact Upd.head | apply Upd.tail)) (by rfl) ?_ | refine RS.storeP ty34 (by rfl) (by rfl) (by rfl) (by rfl) (by rfl) (by repeat (first | exact Upd.head | apply Upd.tail)) (by rfl) ?_
    refine RS.q rfl (QO.assign) ?_
    refine RS.q rfl (QO.assign) ?_
    refine RS.nil ?_
    refine thenC_n ?_
    refine CS.ret ?_
    refine thenC_r ?_
    refine retQ.mk (H' := []) (.inr rfl) (RVs.cellA ty34 (by rfl) (by repeat (first | exact List.Mem.head _ | refine List.Mem.tail _ ?_)) (by rfl) (RVs.tmp (by rfl) (RVs.tmp (by rfl) RVs.nil))) (List.nil_sublist _) ?_
    exact pr_err (prs_big (by omega)) (by decide)
  · have hb0p := of_decide_eq_false hb0
    refine CS.skip ?_
    refine thenC_n ?_
    refine CS.seq ?_
    refine CS.region ?_
    refine RS.q rfl (QO.move) ?_
    refine RS.call rfl (by rfl) ok120 (by rfl) (fun w ho => splitL l m _ (ho.old hm) (by omega)) ?_
    rintro _ _ ⟨g34, rfl, rfl⟩
    refine RS.q rfl (QO.assign) ?_
    refine RS.nil ?_
    refine thenC_n ?_
    refine CS.seq ?_
    refine CS.region ?_
    refine RS.q rfl (QO.move) ?_
    refine RS.q rfl (QO.lenS Tryd.underlying152 (by rfl)) ?_
    first | (refine RS.qv rfl (QO.sub (by rfl) (by rfl) (by omega) (by omega)) (congrArg iv (show ((lns l).length : Int) - 1 = (((lns l).length - 1 : Nat) : Int) by omega)) ?_) | (refine RS.qv rfl (QO.ibin (by rfl) (by rfl) trivial) (congrArg iv (show ((lns l).length : Int) - 1 = (((lns l).length - 1 : Nat) : Int) by omega)) ?_)
    refine RS.q rfl (QO.assign) ?_
    refine RS.nil ?_
    refine thenC_n ?_
    refine CS.seq ?_
    refine CS.region ?_
    refine RS.q rfl (QO.move) ?_
    first | (refine RS.q rfl (QO.idx0 Tryd.underlying152 ty9 (by rfl) (by rfl) (by rfl) (by omega)) ?_) | (refine RS.q rfl (QO.idxn Tryd.underlying152 ty9 (by rfl) (by rfl) (by rfl) (by omega)) ?_) | (refine RS.q rfl (QO.idx1 Tryd.underlying152 ty9 (by rfl) (by rfl) (by omega) (by omega)) ?_)
    refine RS.qv rfl (QO.load ty9 (by rfl) (by repeat (first | exact List.Mem.head _ | refine List.Mem.tail _ ?_)) (sv_cell (L := lns l) (k := 0) (lns_pos l))) (show sv ((lns l).getD 0 []) = sv (ln l 0) from rfl) ?_
    refine RS.call rfl (by rfl) ok120 (by rfl) (fun w ho => splitW (ln l 0) m _ (ho.old hm) (by have := ln_len l 0; omega)) ?_
    rintro _ _ ⟨g41, rfl, rfl⟩
    refine RS.q rfl (QO.assign) ?_
    refine RS.nil ?_
    refine thenC_n ?_
    refine CS.seq ?_
    refine CS.seq ?_
    refine CS.region ?_
    refine RS.q rfl (QO.move) ?_
    refine RS.q rfl (QO.eql (by rfl) (by rfl)) ?_
    refine RS.q rfl (QO.move) ?_
    refine RS.split (dj := 44) (by rfl) (fun hb1 => ?_) (fun hb1 => ?_)
    · have hb1p := eq_of_beq hb1
      refine RS.off (dj := 44) rfl (.inl (congrArg Value.bool hb1)) (fun _ => rfl) rfl ?_
      refine RS.off (dj := 44) rfl (.inl (congrArg Value.bool hb1)) (fun _ => rfl) rfl ?_
      refine RS.off (dj := 44) rfl (.inl (congrArg Value.bool hb1)) (fun _ => rfl) rfl ?_
      refine RS.q rfl (QO.pickT (by rfl) hb1 (by rfl)) ?_
      refine RS.q rfl (QO.move) ?_
      refine RS.off (dj := 49) rfl (.inl (congrArg Value.bool rfl)) (fun _ => rfl) rfl ?_
      refine RS.off (dj := 49) rfl (.inl (congrArg Value.bool rfl)) (fun _ => rfl) rfl ?_
      refine RS.off (dj := 49) rfl (.inl (congrArg Value.bool rfl)) (fun _ => rfl) rfl ?_
      refine RS.off (dj := 49) rfl (.inl (congrArg Value.bool rfl)) (fun _ => rfl) rfl ?_
      refine RS.q rfl (QO.pickT (by rfl) rfl (by rfl)) ?_
      refine RS.nil ?_
      refine thenC_n ?_
      refine CS.condT (by rfl) rfl ?_
      refine CS.seq ?_
      refine CS.region ?_
      refine RS.q rfl (QO.move) ?_
      refine RS.call rfl (by rfl) ok119 (by rfl) (fun w ho => parseNo 0 9 _) ?_
      rintro _ _ ⟨rfl, rfl⟩
      refine RS.q rfl (QO.extract (by rfl) (by rfl)) ?_
      refine RS.q rfl (QO.extract (by rfl) (by rfl)) ?_
      refine RS.q rfl (QO.extract (by rfl) (by rfl)) ?_
      first | refine RS.storeB ty34 (by rfl) (by rfl) (by rfl) (by rfl) (by rfl) (by repeat (first | exact Upd.head | apply Upd.tail)) (by rfl) ?_ | refine RS.storeP ty34 (by rfl) (by rfl) (by rfl) (by rfl) (by rfl) (by repeat (first | exact Upd.head | apply Upd.tail)) (by rfl) ?_
      refine RS.q rfl (QO.assign) ?_
      refine RS.q rfl (QO.assign) ?_
      refine RS.nil ?_
      refine thenC_n ?_
      refine CS.ret ?_
      refine thenC_r ?_
      refine retQ.mk (H' := []) (.inr rfl) (RVs.cellA ty34 (by rfl) (by repeat (first | exact List.Mem.head _ | refine List.Mem.tail _ ?_)) (by rfl) (RVs.tmp (by rfl) (RVs.tmp (by rfl) RVs.nil))) (List.nil_sublist _) ?_
      exact pr_err (prs_head (by omega) (.inl (by omega))) (by decide)
    · have hb1p := ne_of_beq_false hb1
      refine RS.on (dj := 44) rfl (congrArg Value.bool hb1) ?_
      refine RS.q rfl (QO.move) ?_
      refine RS.on (dj := 44) rfl (congrArg Value.bool hb1) ?_
      refine RS.q rfl (QO.lenS Tryd.underlying152 (by rfl)) ?_
      refine RS.on (dj := 44) rfl (congrArg Value.bool hb1) ?_
      refine RS.q rfl (QO.neq (by rfl) (by rfl)) ?_
      refine RS.q rfl (QO.pickF (by rfl) hb1 (by rfl)) ?_
      refine RS.q rfl (QO.move) ?_
      refine RS.split (dj := 49) (by rfl) (fun hb2 => ?_) (fun hb2 => ?_)
      · have hb2p := bne_iff_ne.1 hb2
        refine RS.off (dj := 49) rfl (.inl (congrArg Value.bool hb2)) (fun _ => rfl) rfl ?_
        refine RS.off (dj := 49) rfl (.inl (congrArg Value.bool hb2)) (fun _ => rfl) rfl ?_
        refine RS.off (dj := 49) rfl (.inl (congrArg Value.bool hb2)) (fun _ => rfl) rfl ?_
        refine RS.off (dj := 49) rfl (.inl (congrArg Value.bool hb2)) (fun _ => rfl) rfl ?_
        refine RS.q rfl (QO.pickT (by rfl) hb2 (by rfl)) ?_
        refine RS.nil ?_
        refine thenC_n ?_
        refine CS.condT (by rfl) rfl ?_
        refine CS.seq ?_
        refine CS.region ?_
        refine RS.q rfl (QO.move) ?_
        refine RS.call rfl (by rfl) ok119 (by rfl) (fun w ho => parseNo 0 9 _) ?_
        rintro _ _ ⟨rfl, rfl⟩
        refine RS.q rfl (QO.extract (by rfl) (by rfl)) ?_
        refine RS.q rfl (QO.extract (by rfl) (by rfl)) ?_
        refine RS.q rfl (QO.extract (by rfl) (by rfl)) ?_
        first | refine RS.storeB ty34 (by rfl) (by rfl) (by rfl) (by rfl) (by rfl) (by repeat (first | exact Upd.head | apply Upd.tail)) (by rfl) ?_ | refine RS.storeP ty34 (by rfl) (by rfl) (by rfl) (by rfl) (by rfl) (by repeat (first | exact Upd.head | apply Upd.tail)) (by rfl) ?_
        refine RS.q rfl (QO.assign) ?_
        refine RS.q rfl (QO.assign) ?_
        refine RS.nil ?_
        refine thenC_n ?_
        refine CS.ret ?_
        refine thenC_r ?_
        refine retQ.mk (H' := []) (.inr rfl) (RVs.cellA ty34 (by rfl) (by repeat (first | exact List.Mem.head _ | refine List.Mem.tail _ ?_)) (by rfl) (RVs.tmp (by rfl) (RVs.tmp (by rfl) RVs.nil))) (List.nil_sublist _) ?_
        exact pr_err (prs_head (by omega) (.inr (hdB_len (by omega)))) (by decide)
      · have hb2p := of_bne_false hb2
        refine RS.on (dj := 49) rfl (congrArg Value.bool hb2) ?_
        refine RS.q rfl (QO.move) ?_
        refine RS.on (dj := 49) rfl (congrArg Value.bool hb2) ?_
        first | (refine RS.q rfl (QO.idx0 Tryd.underlying152 ty9 (by rfl) (by rfl) (by rfl) (by omega)) ?_) | (refine RS.q rfl (QO.idxn Tryd.underlying152 ty9 (by rfl) (by rfl) (by rfl) (by omega)) ?_) | (refine RS.q rfl (QO.idx1 Tryd.underlying152 ty9 (by rfl) (by rfl) (by omega) (by omega)) ?_)
        refine RS.on (dj := 49) rfl (congrArg Value.bool hb2) ?_
        refine RS.q rfl (QO.load ty9 (by rfl) (by repeat (first | exact List.Mem.head _ | refine List.Mem.tail _ ?_)) (sv_cell (L := wds (ln l 0)) (k := 0) (by omega))) ?_
        refine RS.on (dj := 49) rfl (congrArg Value.bool hb2) ?_
        refine RS.q rfl (QO.strne (by rfl) (by rfl)) ?_
        refine RS.q rfl (QO.pickF (by rfl) hb2 (by rfl)) ?_
        refine RS.nil ?_
        refine thenC_n ?_
        refine CS.cond (by rfl) (fun hb3 => ?_) (fun hb3 => ?_)
        · refine CS.seq ?_
          refine CS.region ?_
          refine RS.q rfl (QO.move) ?_
          refine RS.call rfl (by rfl) ok119 (by rfl) (fun w ho => parseNo 0 9 _) ?_
          rintro _ _ ⟨rfl, rfl⟩
          refine RS.q rfl (QO.extract (by rfl) (by rfl)) ?_
          refine RS.q rfl (QO.extract (by rfl) (by rfl)) ?_
          refine RS.q rfl (QO.extract (by rfl) (by rfl)) ?_
          first | refine RS.storeB ty34 (by rfl) (by rfl) (by rfl) (by rfl) (by rfl) (by repeat (first | exact Upd.head | apply Upd.tail)) (by rfl) ?_ | refine RS.storeP ty34 (by rfl) (by rfl) (by rfl) (by rfl) (by rfl) (by repeat (first | exact Upd.head | apply Upd.tail)) (by rfl) ?_
          refine RS.q rfl (QO.assign) ?_
          refine RS.q rfl (QO.assign) ?_
          refine RS.nil ?_
          refine thenC_n ?_
          refine CS.ret ?_
          refine thenC_r ?_
          refine retQ.mk (H' := []) (.inr rfl) (RVs.cellA ty34 (by rfl) (by repeat (first | exact List.Mem.head _ | refine List.Mem.tail _ ?_)) (by rfl) (RVs.tmp (by rfl) (RVs.tmp (by rfl) RVs.nil))) (List.nil_sublist _) ?_
          exact pr_err (prs_head (by omega) (.inr (hdB_name (bne_iff_ne.1 hb3)))) (by decide)
        · refine CS.skip ?_
          refine thenC_n ?_
          refine CS.seq ?_
          refine CS.region ?_
          refine RS.alloc rfl ty139 ?_
          intro g9
          refine RS.nil ?_
          refine thenC_n ?_
          refine CS.seq ?_
          refine CS.seq ?_
          refine CS.region ?_
          refine RS.q rfl (QO.move) ?_
          refine RS.nil ?_
          refine thenC_n ?_
          refine CS.block ?_
          refine CS.loop (X := Nat × (Nat → Int)) (3 :: 4 :: 10 :: 11 :: 12 :: 60 :: 61 :: 62 :: 63 :: 64 :: 65 :: 66 :: 67 :: 68 :: 69 :: 70 :: 71 :: 72 :: 73 :: 74 :: 75 :: 76 :: 77 :: 78 :: 79 :: 80 :: 81 :: 82 :: []) (fun z => [(60, iv (z.1 : Int))]) (fun z => ⟨g9, 139, [iv (z.2 0), iv (z.2 1), iv (z.2 2), iv (z.2 3)]⟩ :: ⟨g41, 9, (wds (ln l 0)).map sv⟩ :: ⟨g34, 9, (lns l).map sv⟩ :: ⟨g2, 34, [iv 0, iv 0, iv 0, iv 0, .slice none 0 0]⟩ :: []) (fun z => z.1 ≤ 4 ∧ ∀ k, k < z.1 → intB (wd (ln l 0) (k + 1)) = true ∧ z.2 k = hdV (ln l 0) k) (fun z => 4 - z.1) (0, fun _ => 0) ⟨Nat.zero_le _, fun k hk => absurd hk (Nat.not_lt_zero _)⟩ ?_ ?_ ?_
          · exact (by repeat (first | exact kn_nil | refine kn_cons (by rfl) ?_))
          · exact (by repeat (first | exact List.Sublist.refl _ | exact List.nil_sublist _ | refine List.Sublist.cons_cons _ ?_ | refine List.Sublist.cons _ ?_ | exact Sbp.refl | exact Sbp.nil | refine Sbp.cons (by repeat (first | exact Rem.head | apply Rem.tail)) ?_ | exact Sbp.app | refine Sbp.skip ?_ | exact List.sublist_append_left _ _ | exact List.sublist_append_right _ _))
          · intro z gj11 hz
            obtain ⟨i, f⟩ := z
            obtain ⟨hi, hz0⟩ := hz
            replace hi : i ≤ 4 := hi
            replace hz0 : ∀ k, k < i → intB (wd (ln l 0) (k + 1)) = true ∧ f k = hdV (ln l 0) k := hz0
            show CS _ _ _ _ _ (puts (mix _ _ _) [(60, iv (i : Int))]) (⟨g9, 139, [iv (f 0), iv (f 1), iv (f 2), iv (f 3)]⟩ :: ⟨g41, 9, (wds (ln l 0)).map sv⟩ :: ⟨g34, 9, (lns l).map sv⟩ :: ⟨g2, 34, [iv 0, iv 0, iv 0, iv 0, .slice none 0 0]⟩ :: [])
            refine CS.seq ?_
            refine CS.region ?_
            refine RS.q rfl (QO.lss (by rfl) (by rfl)) ?_
            refine RS.nil ?_
            refine thenC_n ?_
            refine CS.seq ?_
            refine CS.cond (by rfl) (fun hb4 => ?_) (fun hb4 => ?_)
            · have hb4p := of_decide_eq_true hb4
              refine CS.skip ?_
              refine thenC_n ?_
              refine CS.seq ?_
              refine CS.block ?_
              refine CS.seq ?_
              refine CS.region ?_
              refine RS.q rfl (QO.move) ?_
              refine RS.q rfl (QO.assign) ?_
              refine RS.nil ?_
              refine thenC_n ?_
              refine CS.seq ?_
              refine CS.region ?_
              refine RS.q rfl (QO.move) ?_
              refine RS.q rfl (QO.move) ?_
              first | (refine RS.qv rfl (QO.add (by rfl) (by rfl) (by omega) (by omega)) (congrArg iv (show (1 : Int) + (i : Int) = ((i + 1 : Nat) : Int) by omega)) ?_) | (refine RS.qv rfl (QO.ibin (by rfl) (by rfl) trivial) (congrArg iv (show (1 : Int) + (i : Int) = ((i + 1 : Nat) : Int) by omega)) ?_)
              first | (refine RS.q rfl (QO.idx0 Tryd.underlying152 ty9 (by rfl) (by rfl) (by rfl) (by omega)) ?_) | (refine RS.q rfl (QO.idxn Tryd.underlying152 ty9 (by rfl) (by rfl) (by rfl) (by omega)) ?_) | (refine RS.q rfl (QO.idx1 Tryd.underlying152 ty9 (by rfl) (by rfl) (by omega) (by omega)) ?_)
              refine RS.q rfl (QO.load ty9 (by rfl) (by repeat (first | exact List.Mem.head _ | refine List.Mem.tail _ ?_)) (sv_cell (show i + 1 < (wds (ln l 0)).length by omega))) ?_
              refine RS.call rfl (by rfl) ok121 (by rfl) (fun w ho => whole_ (wd (ln l 0) (i + 1)) te3 pe3 te4 pe4 _ (by have := wd_len (l := ln l 0) (k := i + 1) (by omega); have := ln_len l 0; omega) (ho.tab (g := 2) (by kernel_rfl) ht) (ho.old h3) (ho.old h4)) ?_
              rintro _ _ ⟨x69, rfl, hx69, rfl⟩
              refine RS.q rfl (QO.move) ?_
              refine RS.q rfl (QO.extract (by rfl) (by rfl)) ?_
              refine RS.q rfl (QO.extract (by rfl) (by rfl)) ?_
              refine RS.q rfl (QO.assign) ?_
              refine RS.q rfl (QO.assign) ?_
              refine RS.nil ?_
              refine thenC_n ?_
              refine CS.seq ?_
              refine CS.seq ?_
              refine CS.region ?_
              refine RS.q rfl (QO.move) ?_
              refine RS.q rfl (QO.not (by rfl)) ?_
              refine RS.nil ?_
              refine thenC_n ?_
              refine CS.cond (by rfl) (fun hb5 => ?_) (fun hb5 => ?_)
              · have hb5p := Eq.mp (Bool.not_eq_true' _) hb5
                refine CS.seq ?_
                refine CS.region ?_
                refine RS.q rfl (QO.move) ?_
                refine RS.call rfl (by rfl) ok119 (by rfl) (fun w ho => parseNo 0 9 _) ?_
                rintro _ _ ⟨rfl, rfl⟩
                refine RS.q rfl (QO.extract (by rfl) (by rfl)) ?_
                refine RS.q rfl (QO.extract (by rfl) (by rfl)) ?_
                refine RS.q rfl (QO.extract (by rfl) (by rfl)) ?_
                first | refine RS.storeB ty34 (by rfl) (by rfl) (by rfl) (by rfl) (by rfl) (by repeat (first | exact Upd.head | apply Upd.tail)) (by rfl) ?_ | refine RS.storeP ty34 (by rfl) (by rfl) (by rfl) (by rfl) (by rfl) (by repeat (first | exact Upd.head | apply Upd.tail)) (by rfl) ?_
                refine RS.q rfl (QO.assign) ?_
                refine RS.q rfl (QO.assign) ?_
                refine RS.nil ?_
                refine thenC_n ?_
                refine CS.ret ?_
                refine thenC_r ?_
                refine blockC_r ?_
                refine thenC_r ?_
                refine loopQ_r ?_
                refine blockC_r ?_
                refine thenC_r ?_
                refine retQ.mk (H' := []) (.inr rfl) (RVs.cellA ty34 (by rfl) (by repeat (first | exact List.Mem.head _ | refine List.Mem.tail _ ?_)) (by rfl) (RVs.tmp (by rfl) (RVs.tmp (by rfl) RVs.nil))) (List.nil_sublist _) ?_
                have hno : intB (wd (ln l 0) (i + 1)) = false := by have := hb5p; simpa using this
                exact pr_err (prs_head (by omega) (.inr (hdB_int (show i < 4 by omega) hno))) (by decide)
              · have hb5p := Eq.mp (Bool.not_eq_false' _) hb5
                refine CS.skip ?_
                refine thenC_n ?_
                refine CS.region ?_
                refine RS.q rfl (QO.move) ?_
                refine RS.q rfl (QO.move) ?_
                first | (refine RS.q rfl (QO.idxArr0 Tryd.underlying139 ty3 (by rfl) (by rfl) (by rfl) (by omega)) ?_) | (refine RS.q rfl (QO.idxArrn Tryd.underlying139 ty3 (by rfl) (by rfl) (by rfl) (by omega)) ?_) | (refine RS.q rfl (QO.idxArr Tryd.underlying139 ty3 (by rfl) (by rfl) (by omega) (by omega)) ?_)
                refine RS.store1e ty3 rfl (by rfl) (by rfl) (by rfl) (set4 (f := f) (i := i) (x := x69) (by omega)) (by repeat (first | exact Upd.head | apply Upd.tail)) (by first | (simp; done) | (simp; omega) | omega) ?_
                refine RS.nil ?_
                refine blockC_n ?_
                refine thenC_n ?_
                refine CS.region ?_
                first | (refine RS.qv rfl (QO.add (by rfl) (by rfl) (by omega) (by omega)) (congrArg iv (show (i : Int) + 1 = ((i + 1 : Nat) : Int) by omega)) ?_) | (refine RS.qv rfl (QO.ibin (by rfl) (by rfl) trivial) (congrArg iv (show (i : Int) + 1 = ((i + 1 : Nat) : Int) by omega)) ?_)
                refine RS.q rfl (QO.move) ?_
                refine RS.nil ?_
                refine loopQ_n (by intro t ht; repeat (first | with_reducible exact rfl | exact frame_puts ht (frame_mix ht) _ rfl | (refine frame_put rfl ht ?_) | (refine frame_puts ht ?_ _ rfl) | exact frame_mix ht | (refine frame_mix2 rfl ht ?_) | exact rfl)) ?_
                have hok : intB (wd (ln l 0) (i + 1)) = true := by have := hb5p; simpa using this
                exact ⟨(i + 1, updF f i x69), ⟨by show i + 1 ≤ 4; omega, fun k hk => by
                    replace hk : k < i + 1 := hk
                    by_cases e : k = i
                    · subst e; exact ⟨hok, updF_at.trans (hx69 hok)⟩
                    · exact ⟨(hz0 k (by omega)).1, (updF_ne e).trans (hz0 k (by omega)).2⟩⟩, by show 4 - (i + 1) < 4 - i; omega, kn_cons (congrArg iv (by show (i : Int) + 1 = ((i + 1 : Nat) : Int); omega)) kn_nil, (by repeat (first | exact List.Sublist.refl _ | exact List.nil_sublist _ | refine List.Sublist.cons_cons _ ?_ | refine List.Sublist.cons _ ?_ | exact Sbp.refl | exact Sbp.nil | refine Sbp.cons (by repeat (first | exact Rem.head | apply Rem.tail)) ?_ | exact Sbp.app | refine Sbp.skip ?_ | exact List.sublist_append_left _ _ | exact List.sublist_append_right _ _))⟩
            · have hb4p := of_decide_eq_false hb4
              refine CS.exit ?_
              refine thenC_x ?_
              refine loopQ_x ?_
              refine blockC_x ?_
              refine thenC_n ?_
              refine CS.seq ?_
              refine CS.region ?_
              obtain rfl : i = 4 := by omega
              have hl2 : (lns l).length ≠ 1 := by omega
              have hhd : hdB (ln l 0) = true := hdB_ok (by omega) (of_bne_false hb3) (fun k hk => (hz0 k hk).1)
              have hz : ∀ k, k < 4 → f k = hdV (ln l 0) k := fun k hk => (hz0 k hk).2
              first | (refine RS.q rfl (QO.idxArr0 Tryd.underlying139 ty3 (by rfl) (by rfl) (by rfl) (by omega)) ?_) | (refine RS.q rfl (QO.idxArrn Tryd.underlying139 ty3 (by rfl) (by rfl) (by rfl) (by omega)) ?_) | (refine RS.q rfl (QO.idxArr Tryd.underlying139 ty3 (by rfl) (by rfl) (by omega) (by omega)) ?_)
              refine RS.q rfl (QO.load ty3 (by rfl) (by repeat (first | exact List.Mem.head _ | refine List.Mem.tail _ ?_)) (by rfl)) ?_
              first | (refine RS.q rfl (QO.idxArr0 Tryd.underlying139 ty3 (by rfl) (by rfl) (by rfl) (by omega)) ?_) | (refine RS.q rfl (QO.idxArrn Tryd.underlying139 ty3 (by rfl) (by rfl) (by rfl) (by omega)) ?_) | (refine RS.q rfl (QO.idxArr Tryd.underlying139 ty3 (by rfl) (by rfl) (by omega) (by omega)) ?_)
              refine RS.q rfl (QO.load ty3 (by rfl) (by repeat (first | exact List.Mem.head _ | refine List.Mem.tail _ ?_)) (by rfl)) ?_
              first | (refine RS.q rfl (QO.idxArr0 Tryd.underlying139 ty3 (by rfl) (by rfl) (by rfl) (by omega)) ?_) | (refine RS.q rfl (QO.idxArrn Tryd.underlying139 ty3 (by rfl) (by rfl) (by rfl) (by omega)) ?_) | (refine RS.q rfl (QO.idxArr Tryd.underlying139 ty3 (by rfl) (by rfl) (by omega) (by omega)) ?_)
              refine RS.q rfl (QO.load ty3 (by rfl) (by repeat (first | exact List.Mem.head _ | refine List.Mem.tail _ ?_)) (by rfl)) ?_
              first | (refine RS.q rfl (QO.idxArr0 Tryd.underlying139 ty3 (by rfl) (by rfl) (by rfl) (by omega)) ?_) | (refine RS.q rfl (QO.idxArrn Tryd.underlying139 ty3 (by rfl) (by rfl) (by rfl) (by omega)) ?_) | (refine RS.q rfl (QO.idxArr Tryd.underlying139 ty3 (by rfl) (by rfl) (by omega) (by omega)) ?_)
              refine RS.q rfl (QO.load ty3 (by rfl) (by repeat (first | exact List.Mem.head _ | refine List.Mem.tail _ ?_)) (by rfl)) ?_
              refine RS.qv rfl (QO.build ty31 pl31 (by rfl)) (show _ = Value.agg #[iv (f 0), iv (f 1), iv (f 2), iv (f 3)] from rfl) ?_
              refine RS.qv rfl (QO.build ty34 pl34 (by rfl)) (show _ = Value.agg #[iv (f 0), iv (f 1), iv (f 2), iv (f 3), .slice none 0 0] from rfl) ?_
              refine RS.alloc rfl ty34 ?_
              intro g13
              first | refine RS.storeB ty34 (by rfl) (by rfl) (by rfl) (by rfl) (by rfl) (by repeat (first | exact Upd.head | apply Upd.tail)) (by rfl) ?_ | refine RS.storeP ty34 (by rfl) (by rfl) (by rfl) (by rfl) (by rfl) (by repeat (first | exact Upd.head | apply Upd.tail)) (by rfl) ?_
              refine RS.nil ?_
              refine thenC_n ?_
              refine CS.seq ?_
              refine CS.seq ?_
              refine CS.region ?_
              refine RS.q rfl (QO.fieldAddr fo34_0 (by rfl)) ?_
              first | (refine RS.q rfl (QO.loadB ty31 (by rfl) (by repeat (first | exact List.Mem.head _ | refine List.Mem.tail _ ?_)) (by rfl)) ?_) | (refine RS.q rfl (QO.loadA ty31 (by rfl) (by repeat (first | exact List.Mem.head _ | refine List.Mem.tail _ ?_)) (by rfl) (by rfl)) ?_) | (refine RS.q rfl (QO.loadOA ty31 (by rfl) (by assumption) (by rfl)) ?_)
              refine RS.call rfl (by rfl) ok67 (by rfl) (fun w ho => regionError (f 0) (f 1) (f 2) (f 3) _ (by rw [hz 0 (by omega)]; exact hdV_bd _ _)) ?_
              rintro _ _ ⟨rfl, rfl⟩
              refine RS.q rfl (QO.assign) ?_
              refine RS.nil ?_
              refine thenC_n ?_
              refine CS.seq ?_
              refine CS.region ?_
              refine RS.q rfl (QO.move) ?_
              refine RS.q rfl (QO.neq (by rfl) (by rfl)) ?_
              have htr0 := treg (l := l) hz
              refine RS.nil ?_
              refine thenC_n ?_
              refine CS.cond (by rfl) (fun hb6 => ?_) (fun hb6 => ?_)
              · have hb6p := bne_iff_ne.1 hb6
                refine CS.seq ?_
                refine CS.region ?_
                refine RS.q rfl (QO.move) ?_
                refine RS.q rfl (QO.move) ?_
                refine RS.call rfl (by rfl) ok119 (by rfl) (fun w ho => parseNo 0 _ _) ?_
                rintro _ _ ⟨rfl, rfl⟩
                refine RS.q rfl (QO.extract (by rfl) (by rfl)) ?_
                refine RS.q rfl (QO.extract (by rfl) (by rfl)) ?_
                refine RS.q rfl (QO.extract (by rfl) (by rfl)) ?_
                first | refine RS.storeB ty34 (by rfl) (by rfl) (by rfl) (by rfl) (by rfl) (by repeat (first | exact Upd.head | apply Upd.tail)) (by rfl) ?_ | refine RS.storeP ty34 (by rfl) (by rfl) (by rfl) (by rfl) (by rfl) (by repeat (first | exact Upd.head | apply Upd.tail)) (by rfl) ?_
                refine RS.q rfl (QO.assign) ?_
                refine RS.q rfl (QO.assign) ?_
                refine RS.nil ?_
                refine thenC_n ?_
                refine CS.ret ?_
                refine thenC_r ?_
                refine retQ.mk (H' := []) (.inr rfl) (RVs.cellA ty34 (by rfl) (by repeat (first | exact List.Mem.head _ | refine List.Mem.tail _ ?_)) (by rfl) (RVs.tmp (by rfl) (RVs.tmp (by rfl) RVs.nil))) (List.nil_sublist _) ?_
                have hne : tReg l ≠ 0 := fun e => hb6p (htr0.trans e)
                exact pr_err2 (prs_reg (l := l) (by omega) hl2 hhd hne) hne rfl htr0
              · have hb6p := of_bne_false hb6
                refine CS.skip ?_
                refine thenC_n ?_
                refine CS.seq ?_
                refine CS.seq ?_
                refine CS.region ?_
                refine RS.q rfl (QO.assign) ?_
                refine RS.nil ?_
                refine thenC_n ?_
                refine CS.block ?_
                have hr0 := of_bne_false hb6
                have hro := regErr_ok hr0
                obtain ⟨wN, hwN⟩ : ∃ q : Nat, f 2 = (q : Int) := ⟨(f 2).toNat, by omega⟩
                obtain ⟨hN, hhN⟩ : ∃ q : Nat, f 3 = (q : Int) := ⟨(f 3).toNat, by omega⟩
                have hwh : wN * hN ≤ 16384 := by
                  have h5 := hro.2.2.2.2.2.1
                  rw [hwN, hhN] at h5
                  have h6 : ((wN * hN : Nat) : Int) = (wN : Int) * (hN : Int) := Int.natCast_mul ..
                  omega
                have hw1 : 1 ≤ wN := by omega
                have hwb : wN ≤ 256 := by omega
                have hh1 : 1 ≤ hN := by omega
                have hhb : hN ≤ 256 := by omega
                have hxN : (tX l 3).toNat = hN := by
                  rw [show tX l 3 = f 3 from (hz 3 (by omega)).symm, hhN]; rfl
                have hx2 : tX l 2 = f 2 := (hz 2 (by omega)).symm
                have htr : tReg l = 0 := htr0.symm.trans hr0
                clear hro
                refine CS.loop (X := Nat × Value × HL) (3 :: 4 :: 15 :: 16 :: 17 :: 19 :: 20 :: 22 :: 23 :: 24 :: 104 :: 105 :: 106 :: 107 :: 108 :: 109 :: 110 :: 111 :: 112 :: 113 :: 114 :: 115 :: 116 :: 117 :: 118 :: 119 :: 120 :: 121 :: 122 :: 123 :: 124 :: 125 :: 126 :: 127 :: 128 :: 129 :: 130 :: 131 :: 132 :: 133 :: 134 :: 135 :: 136 :: 137 :: 138 :: 139 :: 140 :: 141 :: 142 :: 143 :: 144 :: 145 :: 146 :: 147 :: 148 :: 149 :: 150 :: 151 :: 152 :: 153 :: 154 :: 155 :: 156 :: 157 :: 158 :: 159 :: 160 :: 161 :: 162 :: 163 :: 164 :: 165 :: 166 :: 167 :: 168 :: 169 :: 170 :: 171 :: 172 :: 173 :: 174 :: 175 :: 176 :: 177 :: 178 :: 179 :: 180 :: 181 :: 182 :: 183 :: 184 :: 185 :: 186 :: 187 :: 188 :: 189 :: 190 :: 191 :: 192 :: 193 :: []) (fun z => [(15, iv ((z.1 + 1 : Nat) : Int))]) (fun z => ⟨g13, 34, [iv (f 0), iv (f 1), iv (f 2), iv (f 3), z.2.1]⟩ :: ⟨g34, 9, (lns l).map sv⟩ :: ⟨g2, 34, [iv 0, iv 0, iv 0, iv 0, .slice none 0 0]⟩ :: z.2.2) (fun z => z.1 ≤ hN ∧ (∀ j, j < z.1 → badE l (f 2) (j + 1) = 0) ∧ Row 36 1 z.2.1 (rowsV l z.1).length ((rowsV l z.1).map flt) z.2.2) (fun z => hN - z.1) (0, .slice none 0 0, []) ⟨Nat.zero_le _, fun j hj => absurd hj (Nat.not_lt_zero _), .nil⟩ ?_ ?_ ?_
                · exact kn_cons (congrArg iv (show (1 : Int) = ((0 + 1 : Nat) : Int) from rfl)) kn_nil
                · exact (by repeat (first | exact List.Sublist.refl _ | exact List.nil_sublist _ | refine List.Sublist.cons_cons _ ?_ | refine List.Sublist.cons _ ?_ | exact Sbp.refl | exact Sbp.nil | refine Sbp.cons (by repeat (first | exact Rem.head | apply Rem.tail)) ?_ | exact Sbp.app | refine Sbp.skip ?_ | exact List.sublist_append_left _ _ | exact List.sublist_append_right _ _))
                · intro z gj23 hz
                  obtain ⟨k, v, Hr⟩ := z
                  obtain ⟨hk, hbz, hrow⟩ := hz
                  replace hk : k ≤ hN := hk
                  replace hbz : ∀ j, j < k → badE l (f 2) (j + 1) = 0 := hbz
                  replace hrow : Row 36 1 v (rowsV l k).length ((rowsV l k).map flt) Hr := hrow
                  have hx := hrow.slice
                  obtain ⟨A1, c1, hv, _, _⟩ := hx
                  subst hv
                  have hlen := rowsV_len (l := l) (w := wN) k (by rw [← hwN]; exact hbz)
                  have hwi : wN * k ≤ 16384 := Nat.le_trans (Nat.mul_le_mul_left wN hk) hwh
                  show CS _ _ _ _ _ (puts (mix _ _ _) [(15, iv ((k + 1 : Nat) : Int))]) (⟨g13, 34, [iv (f 0), iv (f 1), iv (f 2), iv (f 3), .slice A1 (rowsV l k).length c1]⟩ :: ⟨g34, 9, (lns l).map sv⟩ :: ⟨g2, 34, [iv 0, iv 0, iv 0, iv 0, .slice none 0 0]⟩ :: Hr)
                  refine CS.seq ?_
                  refine CS.seq ?_
                  refine CS.region ?_
                  refine RS.q rfl (QO.move) ?_
                  refine RS.q rfl (QO.fieldAddr fo34_0 (by rfl)) ?_
                  refine RS.q rfl (QO.fieldAddr fo31_3 (by rfl)) ?_
                  first | (refine RS.q rfl (QO.load ty3 (by rfl) (by repeat (first | exact List.Mem.head _ | refine List.Mem.tail _ ?_)) (by rfl)) ?_) | (refine RS.q rfl (QO.loadO ty3 (by rfl) (by assumption)) ?_) | (refine RS.q rfl (QO.load ty3 (by rfl) (by repeat (first | exact List.Mem.head _ | refine List.Mem.tail _ ?_)) (by assumption)) ?_)
                  refine RS.q rfl (QO.leq (by rfl) (by rfl)) ?_
                  refine RS.nil ?_
                  refine thenC_n ?_
                  refine CS.cond (by rfl) (fun hb7 => ?_) (fun hb7 => ?_)
                  · have hb7p := of_decide_eq_true hb7
                    refine CS.skip ?_
                    refine thenC_n ?_
                    refine CS.seq ?_
                    refine CS.block ?_
                    refine CS.seq ?_
                    refine CS.seq ?_
                    refine CS.region ?_
                    refine RS.q rfl (QO.move) ?_
                    refine RS.q rfl (QO.move) ?_
                    refine RS.q rfl (QO.geq (by rfl) (by rfl)) ?_
                    refine RS.nil ?_
                    refine thenC_n ?_
                    refine CS.cond (by rfl) (fun hb8 => ?_) (fun hb8 => ?_)
                    · have hb8p := of_decide_eq_true hb8
                      refine CS.seq ?_
                      refine CS.region ?_
                      refine RS.q rfl (QO.move) ?_
                      refine RS.q rfl (QO.move) ?_
                      refine RS.call rfl (by rfl) ok119 (by rfl) (fun w ho => parseNo _ 9 _) ?_
                      rintro _ _ ⟨rfl, rfl⟩
                      refine RS.q rfl (QO.extract (by rfl) (by rfl)) ?_
                      refine RS.q rfl (QO.extract (by rfl) (by rfl)) ?_
                      refine RS.q rfl (QO.extract (by rfl) (by rfl)) ?_
                      first | refine RS.storeB ty34 (by rfl) (by rfl) (by rfl) (by rfl) (by rfl) (by repeat (first | exact Upd.head | apply Upd.tail)) (by rfl) ?_ | refine RS.storeP ty34 (by rfl) (by rfl) (by rfl) (by rfl) (by rfl) (by repeat (first | exact Upd.head | apply Upd.tail)) (by rfl) ?_
                      refine RS.q rfl (QO.assign) ?_
                      refine RS.q rfl (QO.assign) ?_
                      refine RS.nil ?_
                      refine thenC_n ?_
                      refine CS.ret ?_
                      refine thenC_r ?_
                      refine blockC_r ?_
                      refine thenC_r ?_
                      refine loopQ_r ?_
                      refine blockC_r ?_
                      refine thenC_r ?_
                      refine retQ.mk (H' := []) (.inr rfl) (RVs.cellA ty34 (by rfl) (by repeat (first | exact List.Mem.head _ | refine List.Mem.tail _ ?_)) (by rfl) (RVs.tmp (by rfl) (RVs.tmp (by rfl) RVs.nil))) (List.nil_sublist _) ?_
                      have h9 : badE l (f 2) (k + 1) = 9 := badE_F (by omega)
                      have hpr := prs_row (l := l) (i := k) (by omega) hl2 hhd htr (by omega) (by rw [hx2]; exact hbz) (by rw [hx2, h9]; decide)
                      rw [hx2, h9] at hpr
                      exact pr_err hpr (by decide)
                    · have hb8p := of_decide_eq_false hb8
                      refine CS.skip ?_
                      refine thenC_n ?_
                      refine CS.seq ?_
                      refine CS.region ?_
                      refine RS.q rfl (QO.assign) ?_
                      refine RS.nil ?_
                      refine thenC_n ?_
                      refine CS.seq ?_
                      refine CS.region ?_
                      refine RS.q rfl (QO.move) ?_
                      refine RS.q rfl (QO.move) ?_
                      first | (refine RS.q rfl (QO.idx0 Tryd.underlying152 ty9 (by rfl) (by rfl) (by rfl) (by omega)) ?_) | (refine RS.q rfl (QO.idxn Tryd.underlying152 ty9 (by rfl) (by rfl) (by rfl) (by omega)) ?_) | (refine RS.q rfl (QO.idx1 Tryd.underlying152 ty9 (by rfl) (by rfl) (by omega) (by omega)) ?_)
                      have hexq : ∃ q, q = ln l (k + 1) := ⟨_, rfl⟩
                      obtain ⟨q, hq⟩ := hexq
                      have hql : q.length ≤ l.length := by rw [hq]; exact ln_len l (k + 1)
                      refine RS.qv rfl (QO.load ty9 (by rfl) (by repeat (first | exact List.Mem.head _ | refine List.Mem.tail _ ?_)) (sv_cell (L := lns l) (k := k + 1) (by omega))) (show sv ((lns l).getD (k + 1) []) = sv q from by rw [hq]; rfl) ?_
                      refine RS.call rfl (by rfl) ok120 (by rfl) (fun w ho => splitP q m _ (ho.old hm) (by omega)) ?_
                      rintro _ _ ⟨g124, rfl, rfl⟩
                      refine RS.q rfl (QO.assign) ?_
                      refine RS.nil ?_
                      refine thenC_n ?_
                      refine CS.seq ?_
                      refine CS.seq ?_
                      refine CS.region ?_
                      refine RS.q rfl (QO.move) ?_
                      refine RS.q rfl (QO.lenS Tryd.underlying152 (by rfl)) ?_
                      refine RS.q rfl (QO.move) ?_
                      refine RS.nil ?_
                      refine thenC_n ?_
                      refine CS.block ?_
                      refine CS.loop (X := Nat × Value × HL) (3 :: 4 :: 16 :: 19 :: 20 :: 22 :: 23 :: 24 :: 127 :: 128 :: 129 :: 130 :: 131 :: 132 :: 133 :: 134 :: 135 :: 136 :: 137 :: 138 :: 139 :: 140 :: 141 :: 142 :: 143 :: 144 :: 145 :: 146 :: 147 :: 148 :: 149 :: 150 :: 151 :: 152 :: 153 :: 154 :: 155 :: 156 :: 157 :: 158 :: 159 :: 160 :: 161 :: 162 :: 163 :: 164 :: 165 :: 166 :: 167 :: 168 :: 169 :: 170 :: 171 :: 172 :: []) (fun z => [(127, iv (z.1 : Int)), (16, iv (wst (((pxs q).take z.1).any frmP)))]) (fun z => ⟨g124, 9, (pxs q).map sv⟩ :: ⟨g13, 34, [iv (f 0), iv (f 1), iv (f 2), iv (f 3), z.2.1]⟩ :: ⟨g34, 9, (lns l).map sv⟩ :: ⟨g2, 34, [iv 0, iv 0, iv 0, iv 0, .slice none 0 0]⟩ :: z.2.2) (fun z => z.1 ≤ (pxs q).length ∧ ((pxs q).take z.1).any badP = false ∧ Row 36 1 z.2.1 (rowsV l k ++ ((pxs q).take z.1).flatMap valP).length ((rowsV l k ++ ((pxs q).take z.1).flatMap valP).map flt) z.2.2) (fun z => (pxs q).length - z.1) (0, .slice A1 (rowsV l k).length c1, Hr) ⟨Nat.zero_le _, by simp, (by show Row 36 1 _ (rowsV l k ++ ((pxs q).take 0).flatMap valP).length ((rowsV l k ++ ((pxs q).take 0).flatMap valP).map flt) Hr; rw [List.take_zero, List.flatMap_nil, List.append_nil]; exact hrow)⟩ ?_ ?_ ?_
                      · exact kn_cons (by rfl) (kn_cons (by rfl) kn_nil)
                      · exact (by repeat (first | exact List.Sublist.refl _ | exact List.nil_sublist _ | refine List.Sublist.cons_cons _ ?_ | refine List.Sublist.cons _ ?_ | exact Sbp.refl | exact Sbp.nil | refine Sbp.cons (by repeat (first | exact Rem.head | apply Rem.tail)) ?_ | exact Sbp.app | refine Sbp.skip ?_ | exact List.sublist_append_left _ _ | exact List.sublist_append_right _ _))
                      · intro z gj30 hz
                        obtain ⟨i, v1, Hr1⟩ := z
                        obtain ⟨hi, hbad, hrow1⟩ := hz
                        replace hi : i ≤ (pxs q).length := hi
                        replace hbad : ((pxs q).take i).any badP = false := hbad
                        replace hrow1 : Row 36 1 v1 (rowsV l k ++ ((pxs q).take i).flatMap valP).length ((rowsV l k ++ ((pxs q).take i).flatMap valP).map flt) Hr1 := hrow1
                        have hx := hrow1.slice
                        obtain ⟨A2, c2, hv, _, _⟩ := hx
                        subst hv
                        have hlen1 : (rowsV l k ++ ((pxs q).take i).flatMap valP).length = 4 * (wN * k) + 4 * i := by rw [List.length_append, hlen, flat_len hbad, List.length_take, Nat.min_eq_left hi]
                        have hmany := pcs_many (l := q) (sep := 32 :: 124 :: 32 :: []) (by simp)
                        replace hmany : (pxs q).length ≤ q.length + 1 := hmany
                        show CS _ _ _ _ _ (puts (mix _ _ _) [(127, iv (i : Int)), (16, iv (wst (((pxs q).take i).any frmP)))]) (⟨g124, 9, (pxs q).map sv⟩ :: ⟨g13, 34, [iv (f 0), iv (f 1), iv (f 2), iv (f 3), .slice A2 (rowsV l k ++ ((pxs q).take i).flatMap valP).length c2]⟩ :: ⟨g34, 9, (lns l).map sv⟩ :: ⟨g2, 34, [iv 0, iv 0, iv 0, iv 0, .slice none 0 0]⟩ :: Hr1)
                        refine CS.seq ?_
                        refine CS.region ?_
                        refine RS.q rfl (QO.lss (by rfl) (by rfl)) ?_
                        refine RS.nil ?_
                        refine thenC_n ?_
                        refine CS.seq ?_
                        refine CS.cond (by rfl) (fun hb9 => ?_) (fun hb9 => ?_)
                        · have hb9p := of_decide_eq_true hb9
                          refine CS.skip ?_
                          refine thenC_n ?_
                          refine CS.seq ?_
                          refine CS.block ?_
                          refine CS.seq ?_
                          refine CS.region ?_
                          first | (refine RS.q rfl (QO.idx0 Tryd.underlying152 ty9 (by rfl) (by rfl) (by rfl) (by omega)) ?_) | (refine RS.q rfl (QO.idxn Tryd.underlying152 ty9 (by rfl) (by rfl) (by rfl) (by omega)) ?_) | (refine RS.q rfl (QO.idx1 Tryd.underlying152 ty9 (by rfl) (by rfl) (by omega) (by omega)) ?_)
                          have hexp : ∃ p, p = (pxs q).getD i [] := ⟨_, rfl⟩
                          obtain ⟨p, hp⟩ := hexp
                          have hpi : (pxs q)[i]? = some p := by rw [hp]; exact at_getD (show i < (pxs q).length by omega)
                          have hpl : p.length ≤ q.length := pcs_each (by simp) (List.mem_of_getElem? hpi)
                          refine RS.qv rfl (QO.load ty9 (by rfl) (by repeat (first | exact List.Mem.head _ | refine List.Mem.tail _ ?_)) (sv_cell (show i < (pxs q).length by omega))) (show sv ((pxs q).getD i []) = sv p from by rw [hp]) ?_
                          refine RS.q rfl (QO.assign) ?_
                          refine RS.nil ?_
                          refine thenC_n ?_
                          refine CS.seq ?_
                          refine CS.region ?_
                          refine RS.q rfl (QO.move) ?_
                          refine RS.call rfl (by rfl) ok120 (by rfl) (fun w ho => splitW p m _ (ho.old hm) (by omega)) ?_
                          rintro _ _ ⟨g132, rfl, rfl⟩
                          refine RS.q rfl (QO.assign) ?_
                          refine RS.nil ?_
                          refine thenC_n ?_
                          refine CS.seq ?_
                          refine CS.seq ?_
                          refine CS.region ?_
                          refine RS.q rfl (QO.move) ?_
                          refine RS.q rfl (QO.lenS Tryd.underlying152 (by rfl)) ?_
                          refine RS.q rfl (QO.neq (by rfl) (by rfl)) ?_
                          refine RS.nil ?_
                          refine thenC_n ?_
                          refine CS.cond (by rfl) (fun hb10 => ?_) (fun hb10 => ?_)
                          · have hb10p := bne_iff_ne.1 hb10
                            refine CS.seq ?_
                            refine CS.region ?_
                            refine RS.q rfl (QO.move) ?_
                            refine RS.q rfl (QO.move) ?_
                            refine RS.call rfl (by rfl) ok119 (by rfl) (fun w ho => parseNo _ 9 _) ?_
                            rintro _ _ ⟨rfl, rfl⟩
                            refine RS.q rfl (QO.extract (by rfl) (by rfl)) ?_
                            refine RS.q rfl (QO.extract (by rfl) (by rfl)) ?_
                            refine RS.q rfl (QO.extract (by rfl) (by rfl)) ?_
                            first | refine RS.storeB ty34 (by rfl) (by rfl) (by rfl) (by rfl) (by rfl) (by repeat (first | exact Upd.head | apply Upd.tail)) (by rfl) ?_ | refine RS.storeP ty34 (by rfl) (by rfl) (by rfl) (by rfl) (by rfl) (by repeat (first | exact Upd.head | apply Upd.tail)) (by rfl) ?_
                            refine RS.q rfl (QO.assign) ?_
                            refine RS.q rfl (QO.assign) ?_
                            refine RS.nil ?_
                            refine thenC_n ?_
                            refine CS.ret ?_
                            refine thenC_r ?_
                            refine blockC_r ?_
                            refine thenC_r ?_
                            refine loopQ_r ?_
                            refine blockC_r ?_
                            refine thenC_r ?_
                            refine blockC_r ?_
                            refine thenC_r ?_
                            refine loopQ_r ?_
                            refine blockC_r ?_
                            refine thenC_r ?_
                            refine retQ.mk (H' := []) (.inr rfl) (RVs.cellA ty34 (by rfl) (by repeat (first | exact List.Mem.head _ | refine List.Mem.tail _ ?_)) (by rfl) (RVs.tmp (by rfl) (RVs.tmp (by rfl) RVs.nil))) (List.nil_sublist _) ?_
                            have h9 : badE l (f 2) (k + 1) = 9 := badE_r (by omega) (by rw [← hq]; exact rowE_bad hpi (badP_len (by omega)))
                            have hpr := prs_row (l := l) (i := k) (by omega) hl2 hhd htr (by omega) (by rw [hx2]; exact hbz) (by rw [hx2, h9]; decide)
                            rw [hx2, h9] at hpr
                            exact pr_err hpr (by decide)
                          · have hb10p := of_bne_false hb10
                            refine CS.skip ?_
                            refine thenC_n ?_
                            refine CS.seq ?_
                            refine CS.region ?_
                            refine RS.q rfl (QO.move) ?_
                            refine RS.q rfl (QO.lenS Tryd.underlying152 (by rfl)) ?_
                            refine RS.q rfl (QO.move) ?_
                            refine RS.nil ?_
                            refine thenC_n ?_
                            refine CS.block ?_
                            have hwl : (wds p).length = 4 := by omega
                            refine CS.loop (X := Nat × Value × HL) (3 :: 4 :: 16 :: 22 :: 23 :: 24 :: 144 :: 145 :: 146 :: 147 :: 148 :: 149 :: 150 :: 151 :: 152 :: 153 :: 154 :: 155 :: 156 :: 157 :: 158 :: 159 :: 160 :: 161 :: 162 :: 163 :: 164 :: 165 :: 166 :: 167 :: 168 :: 169 :: 170 :: 171 :: []) (fun z => [(144, iv (z.1 : Int)), (16, iv (wst (((pxs q).take i).any frmP || ((wds p).take z.1).any frmW)))]) (fun z => ⟨g132, 9, (wds p).map sv⟩ :: ⟨g124, 9, (pxs q).map sv⟩ :: ⟨g13, 34, [iv (f 0), iv (f 1), iv (f 2), iv (f 3), z.2.1]⟩ :: ⟨g34, 9, (lns l).map sv⟩ :: ⟨g2, 34, [iv 0, iv 0, iv 0, iv 0, .slice none 0 0]⟩ :: z.2.2) (fun z => z.1 ≤ 4 ∧ ((wds p).take z.1).any badW = false ∧ Row 36 1 z.2.1 (rowsV l k ++ ((pxs q).take i).flatMap valP ++ ((wds p).take z.1).map hxV).length ((rowsV l k ++ ((pxs q).take i).flatMap valP ++ ((wds p).take z.1).map hxV).map flt) z.2.2) (fun z => 4 - z.1) (0, .slice A2 (rowsV l k ++ ((pxs q).take i).flatMap valP).length c2, Hr1) ⟨Nat.zero_le _, by simp, (by show Row 36 1 _ (rowsV l k ++ ((pxs q).take i).flatMap valP ++ ((wds p).take 0).map hxV).length ((rowsV l k ++ ((pxs q).take i).flatMap valP ++ ((wds p).take 0).map hxV).map flt) Hr1; rw [List.take_zero, List.map_nil, List.append_nil]; exact hrow1)⟩ ?_ ?_ ?_
                            · exact kn_cons (by rfl) (kn_cons (congrArg iv (show wst (((pxs q).take i).any frmP) = wst (((pxs q).take i).any frmP || ((wds p).take 0).any frmW) from by simp)) kn_nil)
                            · exact (by repeat (first | exact List.Sublist.refl _ | exact List.nil_sublist _ | refine List.Sublist.cons_cons _ ?_ | refine List.Sublist.cons _ ?_ | exact Sbp.refl | exact Sbp.nil | refine Sbp.cons (by repeat (first | exact Rem.head | apply Rem.tail)) ?_ | exact Sbp.app | refine Sbp.skip ?_ | exact List.sublist_append_left _ _ | exact List.sublist_append_right _ _))
                            · intro z gj36 hz
                              obtain ⟨j, v2, Hr2⟩ := z
                              obtain ⟨hj, hbw, hrow3⟩ := hz
                              replace hj : j ≤ 4 := hj
                              replace hbw : ((wds p).take j).any badW = false := hbw
                              replace hrow3 : Row 36 1 v2 (rowsV l k ++ ((pxs q).take i).flatMap valP ++ ((wds p).take j).map hxV).length ((rowsV l k ++ ((pxs q).take i).flatMap valP ++ ((wds p).take j).map hxV).map flt) Hr2 := hrow3
                              have hx := hrow3.slice
                              obtain ⟨A3, c3, hv, _, _⟩ := hx
                              subst hv
                              have hlen3 : (rowsV l k ++ ((pxs q).take i).flatMap valP ++ ((wds p).take j).map hxV).length = 4 * (wN * k) + 4 * i + j := by rw [List.length_append, hlen1, List.length_map, List.length_take, Nat.min_eq_left (by omega)]
                              show CS _ _ _ _ _ (puts (mix _ _ _) [(144, iv (j : Int)), (16, iv (wst (((pxs q).take i).any frmP || ((wds p).take j).any frmW)))]) (⟨g132, 9, (wds p).map sv⟩ :: ⟨g124, 9, (pxs q).map sv⟩ :: ⟨g13, 34, [iv (f 0), iv (f 1), iv (f 2), iv (f 3), .slice A3 (rowsV l k ++ ((pxs q).take i).flatMap valP ++ ((wds p).take j).map hxV).length c3]⟩ :: ⟨g34, 9, (lns l).map sv⟩ :: ⟨g2, 34, [iv 0, iv 0, iv 0, iv 0, .slice none 0 0]⟩ :: Hr2)
                              refine CS.seq ?_
                              refine CS.region ?_
                              refine RS.q rfl (QO.lss (by rfl) (by rfl)) ?_
                              refine RS.nil ?_
                              refine thenC_n ?_
                              refine CS.seq ?_
                              refine CS.cond (by rfl) (fun hb11 => ?_) (fun hb11 => ?_)
                              · have hb11p := of_decide_eq_true hb11
                                refine CS.skip ?_
                                refine thenC_n ?_
                                refine CS.seq ?_
                                refine CS.block ?_
                                refine CS.seq ?_
                                refine CS.region ?_
                                have hwj : (wds p)[j]? = some ((wds p).getD j []) := at_getD (show j < (wds p).length by omega)
                                first | (refine RS.q rfl (QO.idx0 Tryd.underlying152 ty9 (by rfl) (by rfl) (by rfl) (by omega)) ?_) | (refine RS.q rfl (QO.idxn Tryd.underlying152 ty9 (by rfl) (by rfl) (by rfl) (by omega)) ?_) | (refine RS.q rfl (QO.idx1 Tryd.underlying152 ty9 (by rfl) (by rfl) (by omega) (by omega)) ?_)
                                refine RS.q rfl (QO.load ty9 (by rfl) (by repeat (first | exact List.Mem.head _ | refine List.Mem.tail _ ?_)) (sv_cell (show j < (wds p).length by omega))) ?_
                                refine RS.q rfl (QO.assign) ?_
                                refine RS.nil ?_
                                refine thenC_n ?_
                                refine CS.seq ?_
                                refine CS.region ?_
                                refine RS.q rfl (QO.move) ?_
                                refine RS.call rfl (by rfl) ok122 (by rfl) (fun w ho => hexSingle ((wds p).getD j []) _) ?_
                                rintro _ _ ⟨rfl, rfl⟩
                                refine RS.q rfl (QO.move) ?_
                                refine RS.q rfl (QO.extract (by rfl) (by rfl)) ?_
                                refine RS.q rfl (QO.extract (by rfl) (by rfl)) ?_
                                refine RS.q rfl (QO.assign) ?_
                                refine RS.q rfl (QO.assign) ?_
                                refine RS.nil ?_
                                refine thenC_n ?_
                                refine CS.seq ?_
                                refine CS.seq ?_
                                refine CS.region ?_
                                refine RS.q rfl (QO.move) ?_
                                refine RS.q rfl (QO.eql (by rfl) (by rfl)) ?_
                                refine RS.nil ?_
                                refine thenC_n ?_
                                refine CS.cond (by rfl) (fun hb12 => ?_) (fun hb12 => ?_)
                                · have hb12p := eq_of_beq hb12
                                  refine CS.seq ?_
                                  refine CS.region ?_
                                  refine RS.q rfl (QO.move) ?_
                                  refine RS.q rfl (QO.move) ?_
                                  refine RS.q rfl (QO.move) ?_
                                  refine RS.call rfl (by rfl) ok119 (by rfl) (fun w ho => parseNo _ _ _) ?_
                                  rintro _ _ ⟨rfl, rfl⟩
                                  refine RS.q rfl (QO.extract (by rfl) (by rfl)) ?_
                                  refine RS.q rfl (QO.extract (by rfl) (by rfl)) ?_
                                  refine RS.q rfl (QO.extract (by rfl) (by rfl)) ?_
                                  first | refine RS.storeB ty34 (by rfl) (by rfl) (by rfl) (by rfl) (by rfl) (by repeat (first | exact Upd.head | apply Upd.tail)) (by rfl) ?_ | refine RS.storeP ty34 (by rfl) (by rfl) (by rfl) (by rfl) (by rfl) (by repeat (first | exact Upd.head | apply Upd.tail)) (by rfl) ?_
                                  refine RS.q rfl (QO.assign) ?_
                                  refine RS.q rfl (QO.assign) ?_
                                  refine RS.nil ?_
                                  refine thenC_n ?_
                                  refine CS.ret ?_
                                  refine thenC_r ?_
                                  refine blockC_r ?_
                                  refine thenC_r ?_
                                  refine loopQ_r ?_
                                  refine blockC_r ?_
                                  refine blockC_r ?_
                                  refine thenC_r ?_
                                  refine loopQ_r ?_
                                  refine blockC_r ?_
                                  refine thenC_r ?_
                                  refine blockC_r ?_
                                  refine thenC_r ?_
                                  refine loopQ_r ?_
                                  refine blockC_r ?_
                                  refine thenC_r ?_
                                  refine retQ.mk (H' := []) (.inr rfl) (RVs.cellA ty34 (by rfl) (by repeat (first | exact List.Mem.head _ | refine List.Mem.tail _ ?_)) (by rfl) (RVs.tmp (by rfl) (RVs.tmp (by rfl) RVs.nil))) (List.nil_sublist _) ?_
                                  have h8 : hxE ((wds p).getD j []) = 9 := hb12p
                                  have h9 : badE l (f 2) (k + 1) = 9 := badE_r (by omega) (by rw [← hq]; exact rowE_bad hpi (badP_word hwj h8))
                                  have hpr := prs_row (l := l) (i := k) (by omega) hl2 hhd htr (by omega) (by rw [hx2]; exact hbz) (by rw [hx2, h9]; decide)
                                  rw [hx2, h9] at hpr
                                  exact pr_err2 hpr (by decide) rfl h8
                                · have hb12p := ne_of_beq_false hb12
                                  refine CS.skip ?_
                                  refine thenC_n ?_
                                  refine CS.cut (X := Unit) [16, 162, 163, 164] (fun z => [(16, iv (wst (((pxs q).take i).any frmP || ((wds p).take (j + 1)).any frmW)))]) (fun z => ⟨g132, 9, (wds p).map sv⟩ :: ⟨g124, 9, (pxs q).map sv⟩ :: ⟨g13, 34, [iv (f 0), iv (f 1), iv (f 2), iv (f 3), .slice A3 (rowsV l k ++ ((pxs q).take i).flatMap valP ++ ((wds p).take j).map hxV).length c3]⟩ :: ⟨g34, 9, (lns l).map sv⟩ :: ⟨g2, 34, [iv 0, iv 0, iv 0, iv 0, .slice none 0 0]⟩ :: Hr2) (fun z => True) ?_ ?_
                                  · refine CS.seq ?_
                                    refine CS.region ?_
                                    refine RS.q rfl (QO.move) ?_
                                    refine RS.q rfl (QO.neq (by rfl) (by rfl)) ?_
                                    refine RS.nil ?_
                                    refine thenC_n ?_
                                    refine CS.cond (by rfl) (fun hb13 => ?_) (fun hb13 => ?_)
                                    · have hb13p := bne_iff_ne.1 hb13
                                      refine CS.region ?_
                                      refine RS.q rfl (QO.move) ?_
                                      refine RS.q rfl (QO.assign) ?_
                                      refine RS.nil ?_
                                      refine cutQ_n (by intro t ht; repeat (first | with_reducible exact rfl | exact frame_puts ht (frame_mix ht) _ rfl | (refine frame_put rfl ht ?_) | (refine frame_puts ht ?_ _ rfl) | exact frame_mix ht | (refine frame_mix2 rfl ht ?_) | exact rfl)) ?_
                                      have h9 := hxE_3 ((wds p).getD j [])
                                      exact ⟨(), trivial, kn_cons (congrArg iv (show hxE ((wds p).getD j []) = wst (((pxs q).take i).any frmP || ((wds p).take (j + 1)).any frmW) from by
                                          rw [any_snoc hwj, show frmW ((wds p).getD j []) = true from bne_iff_ne.2 hb13p, Bool.or_true, Bool.or_true]
                                          rcases h9 with h9 | h9 | h9
                                          · exact absurd h9 hb12p
                                          · exact h9
                                          · exact absurd h9 hb13p)) kn_nil, (by repeat (first | exact List.Sublist.refl _ | exact List.nil_sublist _ | refine List.Sublist.cons_cons _ ?_ | refine List.Sublist.cons _ ?_ | exact Sbp.refl | exact Sbp.nil | refine Sbp.cons (by repeat (first | exact Rem.head | apply Rem.tail)) ?_ | exact Sbp.app | refine Sbp.skip ?_ | exact List.sublist_append_left _ _ | exact List.sublist_append_right _ _))⟩
                                    · have hb13p := of_bne_false hb13
                                      refine CS.skip ?_
                                      refine cutQ_n (by intro t ht; repeat (first | with_reducible exact rfl | exact frame_puts ht (frame_mix ht) _ rfl | (refine frame_put rfl ht ?_) | (refine frame_puts ht ?_ _ rfl) | exact frame_mix ht | (refine frame_mix2 rfl ht ?_) | exact rfl)) ?_
                                      exact ⟨(), trivial, kn_cons (congrArg iv (show wst (((pxs q).take i).any frmP || ((wds p).take j).any frmW) = wst (((pxs q).take i).any frmP || ((wds p).take (j + 1)).any frmW) from by
                                          rw [any_snoc hwj, show frmW ((wds p).getD j []) = false from bne_eq_false_iff_eq.2 (of_bne_false hb13), Bool.or_false])) kn_nil, (by repeat (first | exact List.Sublist.refl _ | exact List.nil_sublist _ | refine List.Sublist.cons_cons _ ?_ | refine List.Sublist.cons _ ?_ | exact Sbp.refl | exact Sbp.nil | refine Sbp.cons (by repeat (first | exact Rem.head | apply Rem.tail)) ?_ | exact Sbp.app | refine Sbp.skip ?_ | exact List.sublist_append_left _ _ | exact List.sublist_append_right _ _))⟩
                                  · intro z gj hz
                                    refine CS.region ?_
                                    refine RS.q rfl (QO.fieldAddr fo34_1 (by rfl)) ?_
                                    first | (refine RS.q rfl (QO.load ty32 (by rfl) (by repeat (first | exact List.Mem.head _ | refine List.Mem.tail _ ?_)) (by rfl)) ?_) | (refine RS.q rfl (QO.loadO ty32 (by rfl) (by assumption)) ?_) | (refine RS.q rfl (QO.load ty32 (by rfl) (by repeat (first | exact List.Mem.head _ | refine List.Mem.tail _ ?_)) (by assumption)) ?_)
                                    refine RS.q rfl (QO.move) ?_
                                    refine RS.buildSlice rfl Tryd.underlying32 ty36 (by decide) (by decide) (by rfl) (by rfl) ?_
                                    intro g168
                                    refine RS.appendRow rfl Tryd.underlying32 ty36 (by rfl) hrow3 (by repeat (first | exact Suf.base | apply Suf.cons)) (by rfl) (Src.blk (by repeat (first | exact List.Mem.head _ | refine List.Mem.tail _ ?_))) (by rfl) (by rfl) (by decide) (by decide) (by unfold maxLen; omega) (by omega) ?_
                                    intro v169 H169 hrow169
                                    have hx169 := hrow169.slice
                                    obtain ⟨A4, c4, hv169, hy169, hz169⟩ := hx169
                                    subst hv169
                                    refine RS.q rfl (QO.fieldAddr fo34_1 (by rfl)) ?_
                                    refine RS.store1e ty32 rfl (by rfl) (by rfl) (by rfl) (show [iv (f 0), iv (f 1), iv (f 2), iv (f 3), .slice A3 (rowsV l k ++ ((pxs q).take i).flatMap valP ++ ((wds p).take j).map hxV).length c3].set 4 (.slice A4 ((rowsV l k ++ ((pxs q).take i).flatMap valP ++ ((wds p).take j).map hxV).length + 1) c4) = [iv (f 0), iv (f 1), iv (f 2), iv (f 3), .slice A4 ((rowsV l k ++ ((pxs q).take i).flatMap valP ++ ((wds p).take j).map hxV).length + 1) c4] from rfl) (by repeat (first | exact Upd.head | apply Upd.tail)) (by first | (simp; done) | (simp; omega) | omega) ?_
                                    refine RS.nil ?_
                                    refine blockC_n ?_
                                    refine thenC_n ?_
                                    refine CS.region ?_
                                    first | (refine RS.q rfl (QO.add (by rfl) (by rfl) (by omega) (by omega)) ?_) | (refine RS.q rfl (QO.ibin (by rfl) (by rfl) trivial) ?_)
                                    refine RS.q rfl (QO.move) ?_
                                    refine RS.nil ?_
                                    refine loopQ_n (by intro t ht; repeat (first | with_reducible exact rfl | exact frame_puts ht (frame_mix ht) _ rfl | (refine frame_put rfl ht ?_) | (refine frame_puts ht ?_ _ rfl) | exact frame_mix ht | (refine frame_mix2 rfl ht ?_) | exact rfl)) ?_
                                    exact ⟨(j + 1, _, H169), ⟨by show j + 1 ≤ 4; omega, by
                                        show ((wds p).take (j + 1)).any badW = false
                                        rw [any_snoc hwj, hbw, Bool.false_or]
                                        exact beq_eq_false_iff_ne.2 hb12p, by
                                        show Row 36 1 _ (rowsV l k ++ ((pxs q).take i).flatMap valP ++ ((wds p).take (j + 1)).map hxV).length ((rowsV l k ++ ((pxs q).take i).flatMap valP ++ ((wds p).take (j + 1)).map hxV).map flt) H169
                                        rw [map_snoc hwj, ← List.append_assoc, List.length_append, List.map_append]
                                        exact hrow169⟩, by show 4 - (j + 1) < 4 - j; omega, kn_cons (congrArg iv (by show (j : Int) + 1 = ((j + 1 : Nat) : Int); omega)) (kn_cons (by rfl) kn_nil), (by repeat (first | exact List.Sublist.refl _ | exact List.nil_sublist _ | refine List.Sublist.cons_cons _ ?_ | refine List.Sublist.cons _ ?_ | exact Sbp.refl | exact Sbp.nil | refine Sbp.cons (by repeat (first | exact Rem.head | apply Rem.tail)) ?_ | exact Sbp.app | refine Sbp.skip ?_ | exact List.sublist_append_left _ _ | exact List.sublist_append_right _ _))⟩
                              · have hb11p := of_decide_eq_false hb11
                                refine CS.exit ?_
                                refine thenC_x ?_
                                refine loopQ_x ?_
                                refine blockC_x ?_
                                refine blockC_n ?_
                                refine thenC_n ?_
                                refine CS.region ?_
                                first | (refine RS.q rfl (QO.add (by rfl) (by rfl) (by omega) (by omega)) ?_) | (refine RS.q rfl (QO.ibin (by rfl) (by rfl) trivial) ?_)
                                refine RS.q rfl (QO.move) ?_
                                refine RS.nil ?_
                                refine loopQ_n (by intro t ht; repeat (first | with_reducible exact rfl | exact frame_puts ht (frame_mix ht) _ rfl | (refine frame_put rfl ht ?_) | (refine frame_puts ht ?_ _ rfl) | exact frame_mix ht | (refine frame_mix2 rfl ht ?_) | exact rfl)) ?_
                                have hj4 : j = 4 := by omega
                                have hw4 : (wds p).take j = wds p := List.take_of_length_le (by omega)
                                rw [hw4] at hbw
                                exact ⟨(i + 1, _, Hr2), ⟨by show i + 1 ≤ (pxs q).length; omega, by
                                    show ((pxs q).take (i + 1)).any badP = false
                                    rw [any_snoc hpi, hbad, Bool.false_or]
                                    unfold badP
                                    rw [hbw, Bool.or_false, bne_eq_false_iff_eq]
                                    omega, by
                                    show Row 36 1 _ (rowsV l k ++ ((pxs q).take (i + 1)).flatMap valP).length ((rowsV l k ++ ((pxs q).take (i + 1)).flatMap valP).map flt) Hr2
                                    exact row_to hrow3 (by rw [flat_snoc hpi, ← List.append_assoc, hw4]; rfl) (by rw [flat_snoc hpi, ← List.append_assoc, hw4]; rfl)⟩, by show (pxs q).length - (i + 1) < (pxs q).length - i; omega, kn_cons (congrArg iv (by show (i : Int) + 1 = ((i + 1 : Nat) : Int); omega)) (kn_cons (congrArg iv (show wst (((pxs q).take i).any frmP || ((wds p).take j).any frmW) = wst (((pxs q).take (i + 1)).any frmP) from by rw [any_snoc hpi, hw4]; rfl)) kn_nil), (by repeat (first | exact List.Sublist.refl _ | exact List.nil_sublist _ | refine List.Sublist.cons_cons _ ?_ | refine List.Sublist.cons _ ?_ | exact Sbp.refl | exact Sbp.nil | refine Sbp.cons (by repeat (first | exact Rem.head | apply Rem.tail)) ?_ | exact Sbp.app | refine Sbp.skip ?_ | exact List.sublist_append_left _ _ | exact List.sublist_append_right _ _))⟩
                        · have hb9p := of_decide_eq_false hb9
                          refine CS.exit ?_
                          refine thenC_x ?_
                          refine loopQ_x ?_
                          refine blockC_x ?_
                          refine thenC_n ?_
                          refine CS.seq ?_
                          refine CS.seq ?_
                          refine CS.region ?_
                          have hta : (pxs q).take i = pxs q := List.take_of_length_le (by omega)
                          have hbad0 : (pxs q).any badP = false := by rw [← hta]; exact hbad
                          have hrow9 := row_to (n' := (rowsV l k ++ rowV q).length) (xs' := (rowsV l k ++ rowV q).map flt) hrow1 (by rw [hta]; rfl) (by rw [hta]; rfl)
                          refine RS.q rfl (QO.move) ?_
                          refine RS.q rfl (QO.lenS Tryd.underlying152 (by rfl)) ?_
                          refine RS.q rfl (QO.fieldAddr fo34_0 (by rfl)) ?_
                          refine RS.q rfl (QO.fieldAddr fo31_2 (by rfl)) ?_
                          first | (refine RS.q rfl (QO.load ty3 (by rfl) (by repeat (first | exact List.Mem.head _ | refine List.Mem.tail _ ?_)) (by rfl)) ?_) | (refine RS.q rfl (QO.loadO ty3 (by rfl) (by assumption)) ?_) | (refine RS.q rfl (QO.load ty3 (by rfl) (by repeat (first | exact List.Mem.head _ | refine List.Mem.tail _ ?_)) (by assumption)) ?_)
                          refine RS.q rfl (QO.neq (by rfl) (by rfl)) ?_
                          refine RS.nil ?_
                          refine thenC_n ?_
                          refine CS.cond (by rfl) (fun hb14 => ?_) (fun hb14 => ?_)
                          · have hb14p := bne_iff_ne.1 hb14
                            refine CS.seq ?_
                            refine CS.region ?_
                            refine RS.q rfl (QO.move) ?_
                            refine RS.q rfl (QO.move) ?_
                            refine RS.call rfl (by rfl) ok119 (by rfl) (fun w ho => parseNo _ 9 _) ?_
                            rintro _ _ ⟨rfl, rfl⟩
                            refine RS.q rfl (QO.extract (by rfl) (by rfl)) ?_
                            refine RS.q rfl (QO.extract (by rfl) (by rfl)) ?_
                            refine RS.q rfl (QO.extract (by rfl) (by rfl)) ?_
                            first | refine RS.storeB ty34 (by rfl) (by rfl) (by rfl) (by rfl) (by rfl) (by repeat (first | exact Upd.head | apply Upd.tail)) (by rfl) ?_ | refine RS.storeP ty34 (by rfl) (by rfl) (by rfl) (by rfl) (by rfl) (by repeat (first | exact Upd.head | apply Upd.tail)) (by rfl) ?_
                            refine RS.q rfl (QO.assign) ?_
                            refine RS.q rfl (QO.assign) ?_
                            refine RS.nil ?_
                            refine thenC_n ?_
                            refine CS.ret ?_
                            refine thenC_r ?_
                            refine blockC_r ?_
                            refine thenC_r ?_
                            refine loopQ_r ?_
                            refine blockC_r ?_
                            refine thenC_r ?_
                            refine retQ.mk (H' := []) (.inr rfl) (RVs.cellA ty34 (by rfl) (by repeat (first | exact List.Mem.head _ | refine List.Mem.tail _ ?_)) (by rfl) (RVs.tmp (by rfl) (RVs.tmp (by rfl) RVs.nil))) (List.nil_sublist _) ?_
                            have h9 : badE l (f 2) (k + 1) = 9 := badE_r (by omega) (by rw [← hq]; exact rowE_many hb14p)
                            have hpr := prs_row (l := l) (i := k) (by omega) hl2 hhd htr (by omega) (by rw [hx2]; exact hbz) (by rw [hx2, h9]; decide)
                            rw [hx2, h9] at hpr
                            exact pr_err hpr (by decide)
                          · have hb14p := of_bne_false hb14
                            refine CS.skip ?_
                            refine thenC_n ?_
                            refine CS.seq ?_
                            refine CS.region ?_
                            refine RS.qv rfl (QO.move) (congrArg iv (show wst (((pxs q).take i).any frmP) = wst ((pxs q).any frmP) by rw [hta])) ?_
                            refine RS.q rfl (QO.neq (by rfl) (by rfl)) ?_
                            refine RS.nil ?_
                            refine thenC_n ?_
                            refine CS.cond (by rfl) (fun hb15 => ?_) (fun hb15 => ?_)
                            · have hb15p := bne_iff_ne.1 hb15
                              refine CS.seq ?_
                              refine CS.region ?_
                              refine RS.q rfl (QO.move) ?_
                              refine RS.q rfl (QO.move) ?_
                              refine RS.q rfl (QO.move) ?_
                              refine RS.call rfl (by rfl) ok119 (by rfl) (fun w ho => parseNo _ _ _) ?_
                              rintro _ _ ⟨rfl, rfl⟩
                              refine RS.q rfl (QO.extract (by rfl) (by rfl)) ?_
                              refine RS.q rfl (QO.extract (by rfl) (by rfl)) ?_
                              refine RS.q rfl (QO.extract (by rfl) (by rfl)) ?_
                              first | refine RS.storeB ty34 (by rfl) (by rfl) (by rfl) (by rfl) (by rfl) (by repeat (first | exact Upd.head | apply Upd.tail)) (by rfl) ?_ | refine RS.storeP ty34 (by rfl) (by rfl) (by rfl) (by rfl) (by rfl) (by repeat (first | exact Upd.head | apply Upd.tail)) (by rfl) ?_
                              refine RS.q rfl (QO.assign) ?_
                              refine RS.q rfl (QO.assign) ?_
                              refine RS.nil ?_
                              refine thenC_n ?_
                              refine CS.ret ?_
                              refine blockC_r ?_
                              refine thenC_r ?_
                              refine loopQ_r ?_
                              refine blockC_r ?_
                              refine thenC_r ?_
                              refine retQ.mk (H' := []) (.inr rfl) (RVs.cellA ty34 (by rfl) (by repeat (first | exact List.Mem.head _ | refine List.Mem.tail _ ?_)) (by rfl) (RVs.tmp (by rfl) (RVs.tmp (by rfl) RVs.nil))) (List.nil_sublist _) ?_
                              have h9 : badE l (f 2) (k + 1) = wst ((pxs q).any frmP) := badE_r (by omega) (by rw [← hq]; exact rowE_ok (by omega) hbad0)
                              have hpr := prs_row (l := l) (i := k) (by omega) hl2 hhd htr (by omega) (by rw [hx2]; exact hbz) (by rw [hx2, h9]; exact hb15p)
                              rw [hx2, h9] at hpr
                              exact pr_err2 hpr hb15p rfl (by rw [hta])
                            · have hb15p := of_bne_false hb15
                              refine CS.skip ?_
                              refine blockC_n ?_
                              refine thenC_n ?_
                              refine CS.region ?_
                              refine RS.q rfl (QO.move) ?_
                              first | (refine RS.q rfl (QO.add (by rfl) (by rfl) (by omega) (by omega)) ?_) | (refine RS.q rfl (QO.ibin (by rfl) (by rfl) trivial) ?_)
                              refine RS.q rfl (QO.assign) ?_
                              refine RS.nil ?_
                              refine loopQ_n (by intro t ht; repeat (first | with_reducible exact rfl | exact frame_puts ht (frame_mix ht) _ rfl | (refine frame_put rfl ht ?_) | (refine frame_puts ht ?_ _ rfl) | exact frame_mix ht | (refine frame_mix2 rfl ht ?_) | exact rfl)) ?_
                              have hr9 : rowE q (f 2) = 0 := by
                                rw [rowE_ok (by omega) hbad0]; exact of_bne_false hb15
                              have hbE : badE l (f 2) (k + 1) = 0 := badE_r (by omega) (by rw [← hq]; exact hr9)
                              exact ⟨(k + 1, _, Hr1), ⟨by show k + 1 ≤ hN; omega, fun j hj => by
                                  replace hj : j < k + 1 := hj
                                  by_cases e : j = k
                                  · subst e; exact hbE
                                  · exact hbz j (by omega), by
                                  show Row 36 1 _ (rowsV l (k + 1)).length ((rowsV l (k + 1)).map flt) Hr1
                                  rw [rowsV_succ, ← hq]
                                  exact hrow9⟩, by show hN - (k + 1) < hN - k; omega, kn_cons (congrArg iv (by show ((k + 1 : Nat) : Int) + 1 = ((k + 1 + 1 : Nat) : Int); omega)) kn_nil, (by repeat (first | exact List.Sublist.refl _ | exact List.nil_sublist _ | refine List.Sublist.cons_cons _ ?_ | refine List.Sublist.cons _ ?_ | exact Sbp.refl | exact Sbp.nil | refine Sbp.cons (by repeat (first | exact Rem.head | apply Rem.tail)) ?_ | exact Sbp.app | refine Sbp.skip ?_ | exact List.sublist_append_left _ _ | exact List.sublist_append_right _ _))⟩
                  · have hb7p := of_decide_eq_false hb7
                    refine CS.exit ?_
                    refine thenC_x ?_
                    refine loopQ_x ?_
                    refine blockC_x ?_
                    refine thenC_n ?_
                    refine CS.seq ?_
                    refine CS.seq ?_
                    refine CS.region ?_
                    refine RS.q rfl (QO.move) ?_
                    refine RS.q rfl (QO.fieldAddr fo34_0 (by rfl)) ?_
                    refine RS.q rfl (QO.fieldAddr fo31_3 (by rfl)) ?_
                    first | (refine RS.q rfl (QO.load ty3 (by rfl) (by repeat (first | exact List.Mem.head _ | refine List.Mem.tail _ ?_)) (by rfl)) ?_) | (refine RS.q rfl (QO.loadO ty3 (by rfl) (by assumption)) ?_) | (refine RS.q rfl (QO.load ty3 (by rfl) (by repeat (first | exact List.Mem.head _ | refine List.Mem.tail _ ?_)) (by assumption)) ?_)
                    first | (refine RS.q rfl (QO.add (by rfl) (by rfl) (by omega) (by omega)) ?_) | (refine RS.q rfl (QO.ibin (by rfl) (by rfl) trivial) ?_)
                    refine RS.q rfl (QO.neq (by rfl) (by rfl)) ?_
                    refine RS.q rfl (QO.move) ?_
                    refine RS.split (dj := 200) (by rfl) (fun hb16 => ?_) (fun hb16 => ?_)
                    · have hb16p := bne_iff_ne.1 hb16
                      refine RS.off (dj := 200) rfl (.inl (congrArg Value.bool hb16)) (fun _ => rfl) rfl ?_
                      refine RS.off (dj := 200) rfl (.inl (congrArg Value.bool hb16)) (fun _ => rfl) rfl ?_
                      refine RS.off (dj := 200) rfl (.inl (congrArg Value.bool hb16)) (fun _ => rfl) rfl ?_
                      refine RS.off (dj := 200) rfl (.inl (congrArg Value.bool hb16)) (fun _ => rfl) rfl ?_
                      refine RS.off (dj := 200) rfl (.inl (congrArg Value.bool hb16)) (fun _ => rfl) rfl ?_
                      refine RS.q rfl (QO.pickT (by rfl) hb16 (by rfl)) ?_
                      refine RS.nil ?_
                      refine thenC_n ?_
                      refine CS.condT (by rfl) rfl ?_
                      refine CS.seq ?_
                      refine CS.region ?_
                      refine RS.q rfl (QO.move) ?_
                      refine RS.q rfl (QO.fieldAddr fo34_0 (by rfl)) ?_
                      refine RS.q rfl (QO.fieldAddr fo31_3 (by rfl)) ?_
                      first | (refine RS.q rfl (QO.load ty3 (by rfl) (by repeat (first | exact List.Mem.head _ | refine List.Mem.tail _ ?_)) (by rfl)) ?_) | (refine RS.q rfl (QO.loadO ty3 (by rfl) (by assumption)) ?_) | (refine RS.q rfl (QO.load ty3 (by rfl) (by repeat (first | exact List.Mem.head _ | refine List.Mem.tail _ ?_)) (by assumption)) ?_)
                      first | (refine RS.q rfl (QO.add (by rfl) (by rfl) (by omega) (by omega)) ?_) | (refine RS.q rfl (QO.ibin (by rfl) (by rfl) trivial) ?_)
                      refine RS.call rfl (by rfl) ok119 (by rfl) (fun w ho => parseNo _ 9 _) ?_
                      rintro _ _ ⟨rfl, rfl⟩
                      refine RS.q rfl (QO.extract (by rfl) (by rfl)) ?_
                      refine RS.q rfl (QO.extract (by rfl) (by rfl)) ?_
                      refine RS.q rfl (QO.extract (by rfl) (by rfl)) ?_
                      first | refine RS.storeB ty34 (by rfl) (by rfl) (by rfl) (by rfl) (by rfl) (by repeat (first | exact Upd.head | apply Upd.tail)) (by rfl) ?_ | refine RS.storeP ty34 (by rfl) (by rfl) (by rfl) (by rfl) (by rfl) (by repeat (first | exact Upd.head | apply Upd.tail)) (by rfl) ?_
                      refine RS.q rfl (QO.assign) ?_
                      refine RS.q rfl (QO.assign) ?_
                      refine RS.nil ?_
                      refine thenC_n ?_
                      refine CS.ret ?_
                      refine thenC_r ?_
                      refine retQ.mk (H' := []) (.inr rfl) (RVs.cellA ty34 (by rfl) (by repeat (first | exact List.Mem.head _ | refine List.Mem.tail _ ?_)) (by rfl) (RVs.tmp (by rfl) (RVs.tmp (by rfl) RVs.nil))) (List.nil_sublist _) ?_
                      have hkN : k = hN := by omega
                      have hpr := prs_end (l := l) (by omega) hl2 hhd htr (by rw [hx2, hxN, ← hkN]; exact hbz) (endB_1 (by rw [hxN]; omega))
                      rw [hxN] at hpr
                      have e9 : f 3 + 1 = ((hN + 1 : Nat) : Int) := by omega
                      exact pr_err2 hpr (by decide) e9 rfl
                    · have hb16p := of_bne_false hb16
                      refine RS.on (dj := 200) rfl (congrArg Value.bool hb16) ?_
                      refine RS.q rfl (QO.move) ?_
                      refine RS.on (dj := 200) rfl (congrArg Value.bool hb16) ?_
                      refine RS.q rfl (QO.move) ?_
                      refine RS.on (dj := 200) rfl (congrArg Value.bool hb16) ?_
                      first | (refine RS.q rfl (QO.idx0 Tryd.underlying152 ty9 (by rfl) (by rfl) (by rfl) (by omega)) ?_) | (refine RS.q rfl (QO.idxn Tryd.underlying152 ty9 (by rfl) (by rfl) (by rfl) (by omega)) ?_) | (refine RS.q rfl (QO.idx1 Tryd.underlying152 ty9 (by rfl) (by rfl) (by omega) (by omega)) ?_)
                      refine RS.on (dj := 200) rfl (congrArg Value.bool hb16) ?_
                      refine RS.q rfl (QO.load ty9 (by rfl) (by repeat (first | exact List.Mem.head _ | refine List.Mem.tail _ ?_)) (sv_cell (L := lns l) (k := (lns l).length - 1) (by omega))) ?_
                      refine RS.on (dj := 200) rfl (congrArg Value.bool hb16) ?_
                      refine RS.q rfl (QO.strne (by rfl) (by rfl)) ?_
                      refine RS.q rfl (QO.pickF (by rfl) hb16 (by rfl)) ?_
                      refine RS.nil ?_
                      refine thenC_n ?_
                      refine CS.cond (by rfl) (fun hb17 => ?_) (fun hb17 => ?_)
                      · refine CS.seq ?_
                        refine CS.region ?_
                        refine RS.q rfl (QO.move) ?_
                        refine RS.q rfl (QO.fieldAddr fo34_0 (by rfl)) ?_
                        refine RS.q rfl (QO.fieldAddr fo31_3 (by rfl)) ?_
                        first | (refine RS.q rfl (QO.load ty3 (by rfl) (by repeat (first | exact List.Mem.head _ | refine List.Mem.tail _ ?_)) (by rfl)) ?_) | (refine RS.q rfl (QO.loadO ty3 (by rfl) (by assumption)) ?_) | (refine RS.q rfl (QO.load ty3 (by rfl) (by repeat (first | exact List.Mem.head _ | refine List.Mem.tail _ ?_)) (by assumption)) ?_)
                        first | (refine RS.q rfl (QO.add (by rfl) (by rfl) (by omega) (by omega)) ?_) | (refine RS.q rfl (QO.ibin (by rfl) (by rfl) trivial) ?_)
                        refine RS.call rfl (by rfl) ok119 (by rfl) (fun w ho => parseNo _ 9 _) ?_
                        rintro _ _ ⟨rfl, rfl⟩
                        refine RS.q rfl (QO.extract (by rfl) (by rfl)) ?_
                        refine RS.q rfl (QO.extract (by rfl) (by rfl)) ?_
                        refine RS.q rfl (QO.extract (by rfl) (by rfl)) ?_
                        first | refine RS.storeB ty34 (by rfl) (by rfl) (by rfl) (by rfl) (by rfl) (by repeat (first | exact Upd.head | apply Upd.tail)) (by rfl) ?_ | refine RS.storeP ty34 (by rfl) (by rfl) (by rfl) (by rfl) (by rfl) (by repeat (first | exact Upd.head | apply Upd.tail)) (by rfl) ?_
                        refine RS.q rfl (QO.assign) ?_
                        refine RS.q rfl (QO.assign) ?_
                        refine RS.nil ?_
                        refine thenC_n ?_
                        refine CS.ret ?_
                        refine thenC_r ?_
                        refine retQ.mk (H' := []) (.inr rfl) (RVs.cellA ty34 (by rfl) (by repeat (first | exact List.Mem.head _ | refine List.Mem.tail _ ?_)) (by rfl) (RVs.tmp (by rfl) (RVs.tmp (by rfl) RVs.nil))) (List.nil_sublist _) ?_
                        have hkN : k = hN := by omega
                        have hne : ¬ (lns l).getD ((lns l).length - 1) [] = [] := bne_iff_ne.1 hb17
                        have hpr := prs_end (l := l) (by omega) hl2 hhd htr (by rw [hx2, hxN, ← hkN]; exact hbz) (endB_2 (fun h9 => hne (by rw [hxN] at h9; rw [show (lns l).length - 1 = hN + 1 by omega]; exact h9)))
                        rw [hxN] at hpr
                        have e9 : f 3 + 1 = ((hN + 1 : Nat) : Int) := by omega
                        exact pr_err2 hpr (by decide) e9 rfl
                      · refine CS.skip ?_
                        refine thenC_n ?_
                        refine CS.seq ?_
                        refine CS.region ?_
                        first | (refine RS.q rfl (QO.loadB ty34 (by rfl) (by repeat (first | exact List.Mem.head _ | refine List.Mem.tail _ ?_)) (by rfl)) ?_) | (refine RS.q rfl (QO.loadA ty34 (by rfl) (by repeat (first | exact List.Mem.head _ | refine List.Mem.tail _ ?_)) (by rfl) (by rfl)) ?_) | (refine RS.q rfl (QO.loadOA ty34 (by rfl) (by assumption) (by rfl)) ?_)
                        first | refine RS.storeB ty34 (by rfl) (by rfl) (by rfl) (by rfl) (by rfl) (by repeat (first | exact Upd.head | apply Upd.tail)) (by rfl) ?_ | refine RS.storeP ty34 (by rfl) (by rfl) (by rfl) (by rfl) (by rfl) (by repeat (first | exact Upd.head | apply Upd.tail)) (by rfl) ?_
                        refine RS.q rfl (QO.assign) ?_
                        refine RS.q rfl (QO.assign) ?_
                        refine RS.nil ?_
                        refine thenC_n ?_
                        refine CS.ret ?_
                        refine retQ.mk (H' := Hr) (.inr rfl) (RVs.cellA ty34 (by rfl) (by repeat (first | exact List.Mem.head _ | refine List.Mem.tail _ ?_)) (by rfl) (RVs.tmp (by rfl) (RVs.tmp (by rfl) RVs.nil))) (sl3 _) ?_
                        have hkN : k = hN := by omega
                        have he0 : (lns l).getD ((lns l).length - 1) [] = [] := of_bne_false hb17
                        have hpr := prs_ok (l := l) (by omega) hl2 hhd htr (by rw [hx2, hxN, ← hkN]; exact hbz) (endB_T (by rw [hxN]; omega) (by rw [hxN]; rw [show (lns l).length - 1 = hN + 1 by omega] at he0; exact he0))
                        have hpos : 0 < wN * k := Nat.mul_pos (by omega) (by omega)
                        exact pr_ok hpr hz (by omega) hrow (by omega)

end Go.Proofs.YtapcgokcfmklbaaDoor
