/-
  Contracts: a frame read by the program. Conditions: as each theorem says.
-/
import Derived.Test.YtapcgokcfmklbaaDoorP2
namespace Go.Proofs.YtapcgokcfmklbaaDoor
open Go Go.Proofs Go.RowKit

theorem pl34 : places Tryd.prog 34 = some #[(0, 4), (4, 1)] := by kernel_rfl
theorem ok115 : callOK Tryd.prog 115 = true := by kernel_rfl
theorem ok117 : callOK Tryd.prog 117 = true := by kernel_rfl
theorem ok118 : callOK Tryd.prog 118 = true := by kernel_rfl

/-- what reading a text comes to -/
def PrR (l : List UInt8) (v : Value) (H : HL) : Prop :=
  ((prsR l).2 ≠ 0 ∧ v = .tuple #[.agg #[iv 0, iv 0, iv 0, iv 0, .slice none 0 0], iv (prsR l).1, iv (prsR l).2] ∧ H = []) ∨
  (prsR l = (0, 0) ∧ ∃ g n cap junk, v = .tuple #[.agg #[iv (tX l 0), iv (tX l 1), iv (tX l 2), iv (tX l 3), .slice (some ⟨g, 0, none⟩) n cap], iv 0, iv 0] ∧ H = [⟨g, 36, (rowsV l (tX l 3).toNat).map flt ++ junk⟩] ∧ n = (rowsV l (tX l 3).toNat).length ∧ n ≤ cap ∧ cap ≤ maxLen)
theorem pr_err {l : List UInt8} {n e : Int} (h : prsR l = (n, e)) (he : e ≠ 0) : PrR l (.tuple #[.agg #[iv 0, iv 0, iv 0, iv 0, .slice none 0 0], iv n, iv e]) [] := by
  refine .inl ⟨by rw [h]; exact he, by rw [h], rfl⟩
theorem pr_ok {l : List UInt8} {f : Nat → Int} {i : Nat} {v : Value} {Hr : HL} (h : prsR l = (0, 0)) (hf : ∀ k, k < 4 → f k = tX l k) (hi : i = (tX l 3).toNat) (hrow : Row 36 1 v (rowsV l i).length ((rowsV l i).map flt) Hr) (hpos : 0 < (rowsV l i).length) :
    PrR l (.tuple #[.agg #[iv (f 0), iv (f 1), iv (f 2), iv (f 3), v], iv 0, iv 0]) Hr := by
  have hx := hrow.some hpos
  obtain ⟨g, cap, junk, rfl, rfl, h1, h2, _⟩ := hx
  subst hi
  rw [hf 0 (by omega), hf 1 (by omega), hf 2 (by omega), hf 3 (by omega)]
  exact .inr ⟨h, g, _, cap, junk, rfl, rfl, rfl, h1, h2⟩
theorem perm_in5 {b1 b2 b3 b4 b5 : B} {A K : HL} : (A ++ (b1 :: b2 :: b3 :: b4 :: b5 :: K)).Perm (b1 :: b2 :: b3 :: b4 :: b5 :: (A ++ K)) := List.perm_append_comm_assoc A [b1, b2, b3, b4, b5] K
theorem sbp5 {a b c d e : B} (K : HL) : K.Sublist (a :: b :: c :: d :: e :: K) := .cons _ (.cons _ (.cons _ (.cons _ (.cons _ (List.Sublist.refl _)))))
theorem sbp3 {a b c : B} (K : HL) : K.Sublist (a :: b :: c :: K) := .cons _ (.cons _ (.cons _ (List.Sublist.refl _)))
theorem slc_eq {A : Option Addr} {n c : Nat} {a : Addr} (h : A = some a) : Value.slice A n c = .slice (some a) n c := by rw [h]
theorem src_in {W : World} {H : HL} {g : Nat} {xs junk : List Value} {t : TypeId} (h : (⟨g, t, xs ++ junk⟩ : B) ∈ H) : Src W H ⟨g, 0, none⟩ xs :=
  .inr ⟨g, 0, t, _, rfl, h, fun j u hj => by rw [Nat.zero_add, List.getElem?_append_left (List.getElem?_eq_some_iff.1 hj).1]; exact hj⟩
theorem flt_one (xs : List Nat) : (xs.map flt).all (·.oneCell') = true := by
  rw [List.all_eq_true]
  intro u hu
  obtain ⟨x, _, rfl⟩ := List.mem_map.1 hu
  rfl
theorem lns_1 {l : List UInt8} (h : decide (0 + 1 < (lns l).length) = false) : (lns l).length = 1 := by
  have h1 := of_decide_eq_false h
  have h2 := lns_pos l
  omega
theorem lns_2 {l : List UInt8} (h : decide (0 + 1 < (lns l).length) = true) : (lns l).length ≠ 1 ∧ 0 + 1 < (lns l).length := by
  have h1 := of_decide_eq_true h
  omega
theorem treg {l : List UInt8} {f : Nat → Int} (hf : ∀ k, k < 4 → f k = hdV (ln l 0) k) : regErr (f 0) (f 1) (f 2) (f 3) = tReg l := by
  rw [hf 0 (by omega), hf 1 (by omega), hf 2 (by omega), hf 3 (by omega)]; rfl

set_option maxHeartbeats 4000000 in
set_option maxRecDepth 100000 in
theorem parse_ (l : List UInt8) (W : World) (m : Int) (hm : W.cell? ⟨1, 0, none⟩ = some (.int .i64 m)) (te3 : TypeId) (pe3 : Value) (te4 : TypeId) (pe4 : Value) (ht : Lib.TabIs Tryd.prog W "internal/strconv.uint64pow10" .u64 Lib.pow10Tab) (h3 : W.cell? ⟨3, 0, none⟩ = some (.iface te3 pe3)) (h4 : W.cell? ⟨4, 0, none⟩ = some (.iface te4 pe4)) : Fn_ Tryd.prog 53 #[sv l] W (fun v H => PrR l v H) := by
  refine Fn_.intro Tryd.func53 rfl rfl (by rfl) ?_
  refine CS.seq ?_
  refine CS.region ?_
  refine RS.box rfl (by rfl) (by rfl) ?_
  intro g1
  refine RS.alloc rfl ty34 ?_
  intro g2
  refine RS.q rfl (QO.assign) ?_
  refine RS.q rfl (QO.assign) ?_
  refine RS.nil ?_
  refine thenC_n ?_
  refine CS.seq ?_
  refine CS.seq ?_
  refine CS.region ?_
  first | (refine RS.q rfl (QO.load ty9 (by rfl) (by repeat (first | exact List.Mem.head _ | refine List.Mem.tail _ ?_)) (by rfl)) ?_) | (refine RS.q rfl (QO.loadO ty9 (by rfl) (by assumption)) ?_) | (refine RS.q rfl (QO.load ty9 (by rfl) (by repeat (first | exact List.Mem.head _ | refine List.Mem.tail _ ?_)) (by assumption)) ?_)
  refine RS.q rfl (QO.lenStr Tryd.underlying9 (by rfl)) ?_
  refine RS.q rfl (QO.gtr (by rfl) (by rfl)) ?_
  refine RS.nil ?_
  refine thenC_n ?_
  refine CS.cond (by rfl) (fun hb0 => ?_) (fun hb0 => ?_)
  · have hb0p := of_decide_eq_true hb0
    refine CS.seq ?_
    refine CS.region ?_
    refine RS.q rfl (QO.build ty34 pl34 (by rfl)) ?_
    first | refine RS.storeB ty34 (by rfl) (by rfl) (by rfl) (by rfl) (by rfl) (by repeat (first | exact Upd.head | apply Upd.tail)) (by rfl) ?_ | refine RS.storeP ty34 (by rfl) (by rfl) (by rfl) (by rfl) (by rfl) (by repeat (first | exact Upd.head | apply Upd.tail)) (by rfl) ?_
    refine RS.q rfl (QO.assign) ?_
    refine RS.q rfl (QO.assign) ?_
    refine RS.nil ?_
    refine thenC_n ?_
    refine CS.ret ?_
    refine thenC_r ?_
    refine retQ.mk (H' := []) (.inr rfl) (RVs.cellA ty34 (by rfl) (by repeat (first | exact List.Mem.head _ | refine List.Mem.tail _ ?_)) (by rfl) (RVs.tmp (by rfl) (RVs.tmp (by rfl) RVs.nil))) (List.nil_sublist _) ?_
    exact pr_err (prs_big (by omega)) (by decide)
  · have hb0p := of_decide_eq_false hb0
    refine CS.skip ?_
    refine thenC_n ?_
    refine CS.seq ?_
    refine CS.region ?_
    refine RS.alloc rfl ty3 ?_
    intro g5
    refine RS.store1e ty3 rfl (by rfl) (by rfl) (by rfl) (show [iv 0].set 0 (iv (-1)) = [iv (-1)] from rfl) (by repeat (first | exact Upd.head | apply Upd.tail)) (by first | (simp; done) | (simp; omega) | omega) ?_
    refine RS.nil ?_
    refine thenC_n ?_
    refine CS.seq ?_
    refine CS.region ?_
    refine RS.q rfl (QO.makeFunc) ?_
    refine RS.q rfl (QO.assign) ?_
    refine RS.nil ?_
    refine thenC_n ?_
    refine CS.seq ?_
    refine CS.region ?_
    refine RS.q rfl (QO.move) ?_
    refine RS.callH (⟨g1, 9, [sv (l)]⟩ :: ⟨g5, 3, [iv (-1)]⟩ :: ⟨g2, 34, [iv 0, iv 0, iv 0, iv 0, .slice none 0 0]⟩ :: []) rfl (by rfl) ok115 (by rfl) (by repeat (first | exact List.Sublist.refl _ | exact List.nil_sublist _ | refine List.Sublist.cons_cons _ ?_ | refine List.Sublist.cons _ ?_ | exact Sbp.refl | exact Sbp.nil | refine Sbp.cons (by repeat (first | exact Rem.head | apply Rem.tail)) ?_ | exact Sbp.app | refine Sbp.skip ?_ | exact List.sublist_append_left _ _ | exact List.sublist_append_right _ _)) (fun w ho => next l (-1) 0 (by omega) g1 g5 [⟨g2, 34, [iv 0, iv 0, iv 0, iv 0, .slice none 0 0]⟩] _ (by omega) (by omega) m hm) ?_
    rintro _ _ ⟨rfl, rfl⟩
    refine RS.q rfl (QO.move) ?_
    refine RS.qv rfl (QO.extract (by rfl) (by rfl)) (congrArg sv (txt_line l (i := 0) (lns_pos l))) ?_
    refine RS.qv rfl (QO.extract (by rfl) (by rfl)) (congrArg Value.bool (txt_more l (i := 0) (lns_pos l))) ?_
    refine RS.q rfl (QO.assign) ?_
    refine RS.q rfl (QO.assign) ?_
    refine RS.nil ?_
    refine thenC_n ?_
    refine CS.seq ?_
    refine CS.region ?_
    refine RS.q rfl (QO.move) ?_
    refine RS.call rfl (by rfl) ok117 (by rfl) (fun w ho => head (ln l 0) _ (by have := ln_len l 0; omega) m (ho.old hm) te3 pe3 te4 pe4 (ho.tab (g := 2) (by kernel_rfl) ht) (ho.old h3) (ho.old h4)) ?_
    rintro _ _ ⟨f29, rfl, hf29, rfl⟩
    refine RS.q rfl (QO.move) ?_
    refine RS.q rfl (QO.extract (by rfl) (by rfl)) ?_
    refine RS.q rfl (QO.extract (by rfl) (by rfl)) ?_
    refine RS.alloc rfl ty31 ?_
    intro g9
    first | refine RS.storeB ty31 (by rfl) (by rfl) (by rfl) (by rfl) (by rfl) (by repeat (first | exact Upd.head | apply Upd.tail)) (by rfl) ?_ | refine RS.storeP ty31 (by rfl) (by rfl) (by rfl) (by rfl) (by rfl) (by repeat (first | exact Upd.head | apply Upd.tail)) (by rfl) ?_
    refine RS.q rfl (QO.assign) ?_
    refine RS.nil ?_
    refine thenC_n ?_
    refine CS.seq ?_
    refine CS.seq ?_
    refine CS.region ?_
    refine RS.q rfl (QO.move) ?_
    refine RS.q rfl (QO.not (by rfl)) ?_
    refine RS.q rfl (QO.move) ?_
    refine RS.split (dj := 34) (by rfl) (fun hb1 => ?_) (fun hb1 => ?_)
    · have hb1p := Eq.mp (Bool.not_eq_true' _) hb1
      refine RS.off (dj := 34) rfl (.inl (congrArg Value.bool hb1)) (fun _ => rfl) rfl ?_
      refine RS.off (dj := 34) rfl (.inl (congrArg Value.bool hb1)) (fun _ => rfl) rfl ?_
      refine RS.q rfl (QO.pickT (by rfl) hb1 (by rfl)) ?_
      refine RS.nil ?_
      refine thenC_n ?_
      refine CS.condT (by rfl) rfl ?_
      refine CS.seq ?_
      refine CS.draw 5 rfl (by kernel_rfl) (by kernel_rfl) ?_
      refine RT.take (i := 0) rfl (by kernel_rfl) rfl (QO.build ty34 pl34 (by rfl)) ?_
      first | (refine RT.take (i := 1) rfl (by kernel_rfl) rfl (QO.load ty3 (by rfl) (by repeat (first | exact List.Mem.head _ | refine List.Mem.tail _ ?_)) (by rfl)) ?_) | (refine RT.take (i := 1) rfl (by kernel_rfl) rfl (QO.loadO ty3 (by rfl) (by assumption)) ?_) | (refine RT.take (i := 1) rfl (by kernel_rfl) rfl (QO.load ty3 (by rfl) (by repeat (first | exact List.Mem.head _ | refine List.Mem.tail _ ?_)) (by assumption)) ?_)
      refine RT.one (i := 2) (by kernel_rfl) rfl rfl ?_
      first | refine RS.storeB ty34 (by rfl) (by rfl) (by rfl) (by rfl) (by rfl) (by repeat (first | exact Upd.head | apply Upd.tail)) (by rfl) ?_ | refine RS.storeP ty34 (by rfl) (by rfl) (by rfl) (by rfl) (by rfl) (by repeat (first | exact Upd.head | apply Upd.tail)) (by rfl) ?_
      refine RS.nil ⟨(by repeat (first | exact List.Sublist.refl _ | exact List.nil_sublist _ | refine List.Sublist.cons_cons _ ?_ | refine List.Sublist.cons _ ?_ | exact Sbp.refl | exact Sbp.nil | refine Sbp.cons (by repeat (first | exact Rem.head | apply Rem.tail)) ?_ | exact Sbp.app | refine Sbp.skip ?_ | exact List.sublist_append_left _ _ | exact List.sublist_append_right _ _)), ?_⟩
      refine RT.take (i := 3) rfl (by kernel_rfl) rfl (QO.assign) ?_
      refine RT.take (i := 4) rfl (by kernel_rfl) rfl (QO.assign) ?_
      refine RT.done (by kernel_rfl) ?_
      refine thenC_n ?_
      refine CS.ret ?_
      refine thenC_r ?_
      refine retQ.mk (H' := []) (.inr rfl) (RVs.cellA ty34 (by rfl) (by repeat (first | exact List.Mem.head _ | refine List.Mem.tail _ ?_)) (by rfl) (RVs.tmp (by rfl) (RVs.tmp (by rfl) RVs.nil))) (List.nil_sublist _) ?_
      exact pr_err (prs_head (by omega) (.inl (lns_1 hb1p))) (by decide)
    · have hb1p := Eq.mp (Bool.not_eq_false' _) hb1
      refine RS.on (dj := 34) rfl (congrArg Value.bool hb1) ?_
      refine RS.q rfl (QO.move) ?_
      refine RS.on (dj := 34) rfl (congrArg Value.bool hb1) ?_
      refine RS.q rfl (QO.not (by rfl)) ?_
      refine RS.q rfl (QO.pickF (by rfl) hb1 (by rfl)) ?_
      refine RS.nil ?_
      refine thenC_n ?_
      refine CS.cond (by rfl) (fun hb2 => ?_) (fun hb2 => ?_)
      · have hb2p := Eq.mp (Bool.not_eq_true' _) hb2
        refine CS.seq ?_
        refine CS.draw 5 rfl (by kernel_rfl) (by kernel_rfl) ?_
        refine RT.take (i := 0) rfl (by kernel_rfl) rfl (QO.build ty34 pl34 (by rfl)) ?_
        first | (refine RT.take (i := 1) rfl (by kernel_rfl) rfl (QO.load ty3 (by rfl) (by repeat (first | exact List.Mem.head _ | refine List.Mem.tail _ ?_)) (by rfl)) ?_) | (refine RT.take (i := 1) rfl (by kernel_rfl) rfl (QO.loadO ty3 (by rfl) (by assumption)) ?_) | (refine RT.take (i := 1) rfl (by kernel_rfl) rfl (QO.load ty3 (by rfl) (by repeat (first | exact List.Mem.head _ | refine List.Mem.tail _ ?_)) (by assumption)) ?_)
        refine RT.one (i := 2) (by kernel_rfl) rfl rfl ?_
        first | refine RS.storeB ty34 (by rfl) (by rfl) (by rfl) (by rfl) (by rfl) (by repeat (first | exact Upd.head | apply Upd.tail)) (by rfl) ?_ | refine RS.storeP ty34 (by rfl) (by rfl) (by rfl) (by rfl) (by rfl) (by repeat (first | exact Upd.head | apply Upd.tail)) (by rfl) ?_
        refine RS.nil ⟨(by repeat (first | exact List.Sublist.refl _ | exact List.nil_sublist _ | refine List.Sublist.cons_cons _ ?_ | refine List.Sublist.cons _ ?_ | exact Sbp.refl | exact Sbp.nil | refine Sbp.cons (by repeat (first | exact Rem.head | apply Rem.tail)) ?_ | exact Sbp.app | refine Sbp.skip ?_ | exact List.sublist_append_left _ _ | exact List.sublist_append_right _ _)), ?_⟩
        refine RT.take (i := 3) rfl (by kernel_rfl) rfl (QO.assign) ?_
        refine RT.take (i := 4) rfl (by kernel_rfl) rfl (QO.assign) ?_
        refine RT.done (by kernel_rfl) ?_
        refine thenC_n ?_
        refine CS.ret ?_
        refine thenC_r ?_
        refine retQ.mk (H' := []) (.inr rfl) (RVs.cellA ty34 (by rfl) (by repeat (first | exact List.Mem.head _ | refine List.Mem.tail _ ?_)) (by rfl) (RVs.tmp (by rfl) (RVs.tmp (by rfl) RVs.nil))) (List.nil_sublist _) ?_
        have hno : hdB (ln l 0) = false := by have := hb2p; simpa using this
        exact pr_err (prs_head (by omega) (.inr hno)) (by decide)
      · have hb2p := Eq.mp (Bool.not_eq_false' _) hb2
        refine CS.skip ?_
        refine thenC_n ?_
        refine CS.seq ?_
        refine CS.seq ?_
        refine CS.region ?_
        have hhd : hdB (ln l 0) = true := by have := hb2p; simpa using this
        have hfx := hf29 hhd
        have hl2 := lns_2 (l := l) hb1p
        first | (refine RS.q rfl (QO.loadB ty31 (by rfl) (by repeat (first | exact List.Mem.head _ | refine List.Mem.tail _ ?_)) (by rfl)) ?_) | (refine RS.q rfl (QO.loadA ty31 (by rfl) (by repeat (first | exact List.Mem.head _ | refine List.Mem.tail _ ?_)) (by rfl) (by rfl)) ?_) | (refine RS.q rfl (QO.loadOA ty31 (by rfl) (by assumption) (by rfl)) ?_)
        refine RS.call rfl (by rfl) ok69 (by rfl) (fun w ho => checkRegion (f29 0) (f29 1) (f29 2) (f29 3) _) ?_
        rintro _ _ ⟨rfl, rfl⟩
        refine RS.q rfl (QO.assign) ?_
        refine RS.nil ?_
        refine thenC_n ?_
        refine CS.seq ?_
        refine CS.region ?_
        refine RS.q rfl (QO.move) ?_
        refine RS.q rfl (QO.neq (by rfl) (by rfl)) ?_
        refine RS.nil ?_
        refine thenC_n ?_
        refine CS.cond (by rfl) (fun hb3 => ?_) (fun hb3 => ?_)
        · have hb3p := bne_iff_ne.1 hb3
          refine CS.seq ?_
          refine CS.region ?_
          refine RS.q rfl (QO.build ty34 pl34 (by rfl)) ?_
          refine RS.q rfl (QO.move) ?_
          first | refine RS.storeB ty34 (by rfl) (by rfl) (by rfl) (by rfl) (by rfl) (by repeat (first | exact Upd.head | apply Upd.tail)) (by rfl) ?_ | refine RS.storeP ty34 (by rfl) (by rfl) (by rfl) (by rfl) (by rfl) (by repeat (first | exact Upd.head | apply Upd.tail)) (by rfl) ?_
          refine RS.q rfl (QO.assign) ?_
          refine RS.q rfl (QO.assign) ?_
          refine RS.nil ?_
          refine thenC_n ?_
          refine CS.ret ?_
          refine thenC_r ?_
          refine retQ.mk (H' := []) (.inr rfl) (RVs.cellA ty34 (by rfl) (by repeat (first | exact List.Mem.head _ | refine List.Mem.tail _ ?_)) (by rfl) (RVs.tmp (by rfl) (RVs.tmp (by rfl) RVs.nil))) (List.nil_sublist _) ?_
          have hre := treg (l := l) hfx
          rw [hre] at hb3p
          have hpr := prs_reg (l := l) (by omega) hl2.1 hhd hb3p
          rw [← hre] at hpr hb3p
          exact pr_err hpr hb3p
        · have hb3p := of_bne_false hb3
          refine CS.skip ?_
          refine thenC_n ?_
          refine CS.seq ?_
          refine CS.region ?_
          first | (refine RS.q rfl (QO.loadB ty31 (by rfl) (by repeat (first | exact List.Mem.head _ | refine List.Mem.tail _ ?_)) (by rfl)) ?_) | (refine RS.q rfl (QO.loadA ty31 (by rfl) (by repeat (first | exact List.Mem.head _ | refine List.Mem.tail _ ?_)) (by rfl) (by rfl)) ?_) | (refine RS.q rfl (QO.loadOA ty31 (by rfl) (by assumption) (by rfl)) ?_)
          refine RS.q rfl (QO.build ty34 pl34 (by rfl)) ?_
          refine RS.alloc rfl ty34 ?_
          intro g12
          first | refine RS.storeB ty34 (by rfl) (by rfl) (by rfl) (by rfl) (by rfl) (by repeat (first | exact Upd.head | apply Upd.tail)) (by rfl) ?_ | refine RS.storeP ty34 (by rfl) (by rfl) (by rfl) (by rfl) (by rfl) (by repeat (first | exact Upd.head | apply Upd.tail)) (by rfl) ?_
          refine RS.nil ?_
          refine thenC_n ?_
          refine CS.seq ?_
          refine CS.seq ?_
          refine CS.region ?_
          have hr0 := of_bne_false hb3
          have hro := regErr_ok hr0
          obtain ⟨wN, hwN⟩ : ∃ q : Nat, f29 2 = (q : Int) := ⟨(f29 2).toNat, by omega⟩
          obtain ⟨hN, hhN⟩ : ∃ q : Nat, f29 3 = (q : Int) := ⟨(f29 3).toNat, by omega⟩
          have hwh : wN * hN ≤ 16384 := by
            have h5 := hro.2.2.2.2.2.1
            rw [hwN, hhN] at h5
            have h6 : ((wN * hN : Nat) : Int) = (wN : Int) * (hN : Int) := Int.natCast_mul ..
            omega
          have hw1 : 1 ≤ wN := by omega
          have hwb : wN ≤ 256 := by omega
          have hh1 : 1 ≤ hN := by omega
          have hNb : hN ≤ 16384 := Nat.le_trans (Nat.le_mul_of_pos_left hN (by omega)) hwh
          have hxN : (tX l 3).toNat = hN := by
            rw [show tX l 3 = f29 3 from (hfx 3 (by omega)).symm, hhN]; rfl
          have hx2 : tX l 2 = f29 2 := (hfx 2 (by omega)).symm
          have htr : tReg l = 0 := (treg hfx).symm.trans hr0
          clear hro
          refine RS.q rfl (QO.fieldAddr fo31_3 (by rfl)) ?_
          first | (refine RS.q rfl (QO.load ty3 (by rfl) (by repeat (first | exact List.Mem.head _ | refine List.Mem.tail _ ?_)) (by rfl)) ?_) | (refine RS.q rfl (QO.loadO ty3 (by rfl) (by assumption)) ?_) | (refine RS.q rfl (QO.load ty3 (by rfl) (by repeat (first | exact List.Mem.head _ | refine List.Mem.tail _ ?_)) (by assumption)) ?_)
          refine RS.q rfl (QO.move) ?_
          refine RS.nil ?_
          refine thenC_n ?_
          refine CS.block ?_
          refine CS.loop (X := Nat × Value × HL) (3 :: 4 :: 13 :: 14 :: 15 :: 16 :: 50 :: 51 :: 52 :: 53 :: 54 :: 55 :: 56 :: 57 :: 58 :: 59 :: 60 :: 61 :: 62 :: 63 :: 64 :: 65 :: 66 :: 67 :: 68 :: 69 :: 70 :: 71 :: 72 :: 73 :: 74 :: 75 :: 76 :: []) (fun z => [(50, iv (z.1 : Int))]) (fun z => ⟨g1, 9, [sv (txt l (z.1 + 1))]⟩ :: ⟨g5, 3, [iv (z.1 : Int)]⟩ :: ⟨g12, 34, [iv (f29 0), iv (f29 1), iv (f29 2), iv (f29 3), z.2.1]⟩ :: ⟨g9, 31, [iv (f29 0), iv (f29 1), iv (f29 2), iv (f29 3)]⟩ :: ⟨g2, 34, [iv 0, iv 0, iv 0, iv 0, .slice none 0 0]⟩ :: z.2.2) (fun z => z.1 ≤ hN ∧ z.1 + 1 < (lns l).length ∧ (∀ j, j < z.1 → badE l (f29 2) (j + 1) = 0) ∧ Row 36 1 z.2.1 (rowsV l z.1).length ((rowsV l z.1).map flt) z.2.2) (fun z => hN - z.1) (0, .slice none 0 0, []) ⟨Nat.zero_le _, by omega, fun j hj => absurd hj (Nat.not_lt_zero _), .nil⟩ ?_ ?_ ?_
          · exact (by repeat (first | exact kn_nil | refine kn_cons (by rfl) ?_))
          · exact (by repeat (first | exact List.Sublist.refl _ | exact List.nil_sublist _ | refine List.Sublist.cons_cons _ ?_ | refine List.Sublist.cons _ ?_ | exact Sbp.refl | exact Sbp.nil | refine Sbp.cons (by repeat (first | exact Rem.head | apply Rem.tail)) ?_ | exact Sbp.app | refine Sbp.skip ?_ | exact List.sublist_append_left _ _ | exact List.sublist_append_right _ _))
          · intro z gj14 hz
            obtain ⟨i, v, Hr⟩ := z
            obtain ⟨hi, hmo, hbz, hrow⟩ := hz
            replace hi : i ≤ hN := hi
            replace hmo : i + 1 < (lns l).length := hmo
            replace hbz : ∀ j, j < i → badE l (f29 2) (j + 1) = 0 := hbz
            replace hrow : Row 36 1 v (rowsV l i).length ((rowsV l i).map flt) Hr := hrow
            have hx := hrow.slice
            obtain ⟨Av, cv, hv, _, _⟩ := hx
            subst hv
            have hlen := rowsV_len (l := l) (w := wN) i (by rw [← hwN]; exact hbz)
            have hwi : wN * i ≤ 16384 := Nat.le_trans (Nat.mul_le_mul_left wN hi) hwh
            show CS _ _ _ _ _ (puts (mix _ _ _) [(50, iv (i : Int))]) (⟨g1, 9, [sv (txt l (i + 1))]⟩ :: ⟨g5, 3, [iv (i : Int)]⟩ :: ⟨g12, 34, [iv (f29 0), iv (f29 1), iv (f29 2), iv (f29 3), .slice Av (rowsV l i).length cv]⟩ :: ⟨g9, 31, [iv (f29 0), iv (f29 1), iv (f29 2), iv (f29 3)]⟩ :: ⟨g2, 34, [iv 0, iv 0, iv 0, iv 0, .slice none 0 0]⟩ :: Hr)
            refine CS.seq ?_
            refine CS.region ?_
            refine RS.q rfl (QO.lss (by rfl) (by rfl)) ?_
            refine RS.nil ?_
            refine thenC_n ?_
            refine CS.seq ?_
            refine CS.cond (by rfl) (fun hb4 => ?_) (fun hb4 => ?_)
            · have hb4p := of_decide_eq_true hb4
              refine CS.skip ?_
              refine thenC_n ?_
              refine CS.seq ?_
              refine CS.block ?_
              refine CS.seq ?_
              refine CS.region ?_
              refine RS.q rfl (QO.move) ?_
              refine RS.callH (⟨g1, 9, [sv (txt l (i + 1))]⟩ :: ⟨g5, 3, [iv (i : Int)]⟩ :: ⟨g12, 34, [iv (f29 0), iv (f29 1), iv (f29 2), iv (f29 3), .slice Av (rowsV l i).length cv]⟩ :: ⟨g9, 31, [iv (f29 0), iv (f29 1), iv (f29 2), iv (f29 3)]⟩ :: ⟨g2, 34, [iv 0, iv 0, iv 0, iv 0, .slice none 0 0]⟩ :: Hr) rfl (by rfl) ok115 (by rfl) (by repeat (first | exact List.Sublist.refl _ | exact List.nil_sublist _ | refine List.Sublist.cons_cons _ ?_ | refine List.Sublist.cons _ ?_ | exact Sbp.refl | exact Sbp.nil | refine Sbp.cons (by repeat (first | exact Rem.head | apply Rem.tail)) ?_ | exact Sbp.app | refine Sbp.skip ?_ | exact List.sublist_append_left _ _ | exact List.sublist_append_right _ _)) (fun w ho => next (txt l (i + 1)) (i : Int) ((i + 1 : Nat) : Int) (by omega) g1 g5 (⟨g12, 34, [iv (f29 0), iv (f29 1), iv (f29 2), iv (f29 3), .slice Av (rowsV l i).length cv]⟩ :: ⟨g9, 31, [iv (f29 0), iv (f29 1), iv (f29 2), iv (f29 3)]⟩ :: ⟨g2, 34, [iv 0, iv 0, iv 0, iv 0, .slice none 0 0]⟩ :: Hr) _ (by have := txt_len l (i + 1); omega) (by omega) m hm) ?_
              rintro _ _ ⟨rfl, rfl⟩
              refine RS.q rfl (QO.move) ?_
              refine RS.qv rfl (QO.extract (by rfl) (by rfl)) (congrArg sv (txt_line l (i := i + 1) hmo)) ?_
              refine RS.qv rfl (QO.extract (by rfl) (by rfl)) (congrArg Value.bool (txt_more l (i := i + 1) hmo)) ?_
              refine RS.q rfl (QO.assign) ?_
              refine RS.q rfl (QO.assign) ?_
              refine RS.nil ?_
              refine thenC_n ?_
              refine CS.seq ?_
              refine CS.region ?_
              refine RS.q rfl (QO.move) ?_
              refine RS.q rfl (QO.fieldAddr fo31_2 (by rfl)) ?_
              first | (refine RS.q rfl (QO.load ty3 (by rfl) (by repeat (first | exact List.Mem.head _ | refine List.Mem.tail _ ?_)) (by rfl)) ?_) | (refine RS.q rfl (QO.loadO ty3 (by rfl) (by assumption)) ?_) | (refine RS.q rfl (QO.load ty3 (by rfl) (by repeat (first | exact List.Mem.head _ | refine List.Mem.tail _ ?_)) (by assumption)) ?_)
              refine RS.call rfl (by rfl) ok118 (by rfl) (fun w ho => row_ (ln l (i + 1)) (f29 2) _ (by have := ln_len l (i + 1); omega) m (ho.old hm)) ?_
              intro v61 H61 h61
              obtain ⟨A61, n61, c61, rfl, h61⟩ := h61
              refine RS.perm perm_in5 ?_
              refine RS.q rfl (QO.move) ?_
              refine RS.q rfl (QO.extract (by rfl) (by rfl)) ?_
              refine RS.q rfl (QO.extract (by rfl) (by rfl)) ?_
              refine RS.q rfl (QO.assign) ?_
              refine RS.q rfl (QO.assign) ?_
              refine RS.nil ?_
              refine thenC_n ?_
              refine CS.cut (X := Unit) [16, 64, 65] (fun z => [(16, iv (badE l (f29 2) (i + 1)))]) (fun z => ⟨g1, 9, [sv (txt l (i + 2))]⟩ :: ⟨g5, 3, [iv ((i + 1 : Nat) : Int)]⟩ :: ⟨g12, 34, [iv (f29 0), iv (f29 1), iv (f29 2), iv (f29 3), .slice Av (rowsV l i).length cv]⟩ :: ⟨g9, 31, [iv (f29 0), iv (f29 1), iv (f29 2), iv (f29 3)]⟩ :: ⟨g2, 34, [iv 0, iv 0, iv 0, iv 0, .slice none 0 0]⟩ :: (H61 ++ Hr)) (fun z => True) ?_ ?_
              · refine CS.seq ?_
                refine CS.region ?_
                refine RS.q rfl (QO.move) ?_
                refine RS.q rfl (QO.not (by rfl)) ?_
                refine RS.nil ?_
                refine thenC_n ?_
                refine CS.cond (by rfl) (fun hb5 => ?_) (fun hb5 => ?_)
                · have hb5p := Eq.mp (Bool.not_eq_true' _) hb5
                  refine CS.region ?_
                  refine RS.q rfl (QO.assign) ?_
                  refine RS.nil ?_
                  refine cutQ_n (by intro t ht; repeat (first | with_reducible exact rfl | exact frame_puts ht (frame_mix ht) _ rfl | (refine frame_put rfl ht ?_) | (refine frame_puts ht ?_ _ rfl) | exact frame_mix ht | (refine frame_mix2 rfl ht ?_) | exact rfl)) ?_
                  have hno := of_decide_eq_false hb5p
                  exact ⟨(), trivial, kn_cons (congrArg iv (badE_F hno).symm) kn_nil, (by repeat (first | exact List.Sublist.refl _ | exact List.nil_sublist _ | refine List.Sublist.cons_cons _ ?_ | refine List.Sublist.cons _ ?_ | exact Sbp.refl | exact Sbp.nil | refine Sbp.cons (by repeat (first | exact Rem.head | apply Rem.tail)) ?_ | exact Sbp.app | refine Sbp.skip ?_ | exact List.sublist_append_left _ _ | exact List.sublist_append_right _ _))⟩
                · have hb5p := Eq.mp (Bool.not_eq_false' _) hb5
                  refine CS.skip ?_
                  refine cutQ_n (by intro t ht; repeat (first | with_reducible exact rfl | exact frame_puts ht (frame_mix ht) _ rfl | (refine frame_put rfl ht ?_) | (refine frame_puts ht ?_ _ rfl) | exact frame_mix ht | (refine frame_mix2 rfl ht ?_) | exact rfl)) ?_
                  have hye := of_decide_eq_true hb5p
                  exact ⟨(), trivial, kn_cons (congrArg iv (badE_T hye).symm) kn_nil, (by repeat (first | exact List.Sublist.refl _ | exact List.nil_sublist _ | refine List.Sublist.cons_cons _ ?_ | refine List.Sublist.cons _ ?_ | exact Sbp.refl | exact Sbp.nil | refine Sbp.cons (by repeat (first | exact Rem.head | apply Rem.tail)) ?_ | exact Sbp.app | refine Sbp.skip ?_ | exact List.sublist_append_left _ _ | exact List.sublist_append_right _ _))⟩
              · intro z gj hz
                refine CS.seq ?_
                refine CS.seq ?_
                refine CS.region ?_
                refine RS.q rfl (QO.move) ?_
                refine RS.q rfl (QO.neq (by rfl) (by rfl)) ?_
                refine RS.nil ?_
                refine thenC_n ?_
                refine CS.cond (by rfl) (fun hb6 => ?_) (fun hb6 => ?_)
                · have hb6p := bne_iff_ne.1 hb6
                  refine CS.seq ?_
                  refine CS.draw 6 rfl (by kernel_rfl) (by kernel_rfl) ?_
                  refine RT.take (i := 0) rfl (by kernel_rfl) rfl (QO.build ty34 pl34 (by rfl)) ?_
                  first | (refine RT.take (i := 1) rfl (by kernel_rfl) rfl (QO.load ty3 (by rfl) (by repeat (first | exact List.Mem.head _ | refine List.Mem.tail _ ?_)) (by rfl)) ?_) | (refine RT.take (i := 1) rfl (by kernel_rfl) rfl (QO.loadO ty3 (by rfl) (by assumption)) ?_) | (refine RT.take (i := 1) rfl (by kernel_rfl) rfl (QO.load ty3 (by rfl) (by repeat (first | exact List.Mem.head _ | refine List.Mem.tail _ ?_)) (by assumption)) ?_)
                  refine RT.take (i := 2) rfl (by kernel_rfl) rfl (QO.move) ?_
                  refine RT.one (i := 3) (by kernel_rfl) rfl rfl ?_
                  first | refine RS.storeB ty34 (by rfl) (by rfl) (by rfl) (by rfl) (by rfl) (by repeat (first | exact Upd.head | apply Upd.tail)) (by rfl) ?_ | refine RS.storeP ty34 (by rfl) (by rfl) (by rfl) (by rfl) (by rfl) (by repeat (first | exact Upd.head | apply Upd.tail)) (by rfl) ?_
                  refine RS.nil ⟨(by repeat (first | exact List.Sublist.refl _ | exact List.nil_sublist _ | refine List.Sublist.cons_cons _ ?_ | refine List.Sublist.cons _ ?_ | exact Sbp.refl | exact Sbp.nil | refine Sbp.cons (by repeat (first | exact Rem.head | apply Rem.tail)) ?_ | exact Sbp.app | refine Sbp.skip ?_ | exact List.sublist_append_left _ _ | exact List.sublist_append_right _ _)), ?_⟩
                  refine RT.take (i := 4) rfl (by kernel_rfl) rfl (QO.assign) ?_
                  refine RT.take (i := 5) rfl (by kernel_rfl) rfl (QO.assign) ?_
                  refine RT.done (by kernel_rfl) ?_
                  refine thenC_n ?_
                  refine CS.ret ?_
                  refine thenC_r ?_
                  refine blockC_r ?_
                  refine thenC_r ?_
                  refine loopQ_r ?_
                  refine blockC_r ?_
                  refine thenC_r ?_
                  refine retQ.mk (H' := []) (.inr rfl) (RVs.cellA ty34 (by rfl) (by repeat (first | exact List.Mem.head _ | refine List.Mem.tail _ ?_)) (by rfl) (RVs.tmp (by rfl) (RVs.tmp (by rfl) RVs.nil))) (List.nil_sublist _) ?_
                  have hpr := prs_row (l := l) (i := i) (by omega) hl2.1 hhd htr (by omega) (by rw [hx2]; exact hbz) (by rw [hx2]; exact hb6p)
                  rw [hx2] at hpr
                  exact pr_err hpr hb6p
                · have hb6p := of_bne_false hb6
                  refine CS.skip ?_
                  refine thenC_n ?_
                  refine CS.region ?_
                  have hbE := of_bne_false hb6
                  have hq71 := badE_0 hbE
                  have hmore := hq71.1
                  have hrE := hq71.2
                  have hq61 := h61 hrE
                  obtain ⟨g61, j61, hA61, hn61, hp61, hc61, hx61, hm61⟩ := hq61
                  have hl61 := rowV_w (l := ln l (i + 1)) (w := wN) (by rw [← hwN]; exact hrE)
                  refine RS.q rfl (QO.fieldAddr fo34_1 (by rfl)) ?_
                  first | (refine RS.q rfl (QO.load ty32 (by rfl) (by repeat (first | exact List.Mem.head _ | refine List.Mem.tail _ ?_)) (by rfl)) ?_) | (refine RS.q rfl (QO.loadO ty32 (by rfl) (by assumption)) ?_) | (refine RS.q rfl (QO.load ty32 (by rfl) (by repeat (first | exact List.Mem.head _ | refine List.Mem.tail _ ?_)) (by assumption)) ?_)
                  refine RS.q rfl (QO.move) ?_
                  refine RS.appendRow rfl Tryd.underlying32 ty36 (by rfl) hrow (.cons (.cons (.cons (.cons (.cons (suf_of H61)))))) (a := ⟨g61, 0, none⟩) (news := (rowV (ln l (i + 1))).map flt) (Eq.trans (b := Value.slice A61 n61 c61) (by rfl) (slc_eq hA61)) (src_in (t := 36) (junk := j61) (.tail _ (.tail _ (.tail _ (.tail _ (.tail _ (List.mem_append_left _ hm61))))))) (by rw [List.length_map]; show _ = n61 * 1; omega) (flt_one _) (by decide) (by omega) (by unfold maxLen; omega) (by omega) ?_
                  intro v74 H74 hrow74
                  have hx74 := hrow74.slice
                  obtain ⟨A74, c74, hv74, hy74, hz74⟩ := hx74
                  subst hv74
                  refine RS.q rfl (QO.fieldAddr fo34_1 (by rfl)) ?_
                  refine RS.store1e ty32 rfl (by rfl) (by rfl) (by rfl) (show [iv (f29 0), iv (f29 1), iv (f29 2), iv (f29 3), .slice Av (rowsV l i).length cv].set 4 (.slice A74 ((rowsV l i).length + n61) c74) = [iv (f29 0), iv (f29 1), iv (f29 2), iv (f29 3), .slice A74 ((rowsV l i).length + n61) c74] from rfl) (by repeat (first | exact Upd.head | apply Upd.tail)) (by first | (simp; done) | (simp; omega) | omega) ?_
                  refine RS.nil ?_
                  refine blockC_n ?_
                  refine thenC_n ?_
                  refine CS.region ?_
                  first | (refine RS.q rfl (QO.add (by rfl) (by rfl) (by omega) (by omega)) ?_) | (refine RS.q rfl (QO.ibin (by rfl) (by rfl) trivial) ?_)
                  refine RS.q rfl (QO.move) ?_
                  refine RS.nil ?_
                  refine loopQ_n (by intro t ht; repeat (first | with_reducible exact rfl | exact frame_puts ht (frame_mix ht) _ rfl | (refine frame_put rfl ht ?_) | (refine frame_puts ht ?_ _ rfl) | exact frame_mix ht | (refine frame_mix2 rfl ht ?_) | exact rfl)) ?_
                  exact ⟨(i + 1, _, H74), ⟨by show i + 1 ≤ hN; omega, by show i + 1 + 1 < (lns l).length; omega, fun j hj => by
                      replace hj : j < i + 1 := hj
                      by_cases e : j = i
                      · subst e; exact hbE
                      · exact hbz j (by omega), by
                      show Row 36 1 _ (rowsV l (i + 1)).length ((rowsV l (i + 1)).map flt) H74
                      rw [rowsV_succ, List.length_append, List.map_append, ← hn61]
                      exact hrow74⟩, by show hN - (i + 1) < hN - i; omega, kn_cons (congrArg iv (by show (i : Int) + 1 = ((i + 1 : Nat) : Int); omega)) kn_nil, .cons .head (.cons .head (.cons .head (.cons .head (.cons .head (sbp_suf _ _)))))⟩
            · have hb4p := of_decide_eq_false hb4
              refine CS.exit ?_
              refine thenC_x ?_
              refine loopQ_x ?_
              refine blockC_x ?_
              refine thenC_n ?_
              refine CS.seq ?_
              refine CS.seq ?_
              refine CS.region ?_
              first | (refine RS.q rfl (QO.load ty9 (by rfl) (by repeat (first | exact List.Mem.head _ | refine List.Mem.tail _ ?_)) (by rfl)) ?_) | (refine RS.q rfl (QO.loadO ty9 (by rfl) (by assumption)) ?_) | (refine RS.q rfl (QO.load ty9 (by rfl) (by repeat (first | exact List.Mem.head _ | refine List.Mem.tail _ ?_)) (by assumption)) ?_)
              refine RS.q rfl (QO.strne (by rfl) (by rfl)) ?_
              refine RS.nil ?_
              refine thenC_n ?_
              refine CS.cond (by rfl) (fun hb7 => ?_) (fun hb7 => ?_)
              · refine CS.seq ?_
                refine CS.draw 6 rfl (by kernel_rfl) (by kernel_rfl) ?_
                refine RT.take (i := 0) rfl (by kernel_rfl) rfl (QO.build ty34 pl34 (by rfl)) ?_
                first | (refine RT.take (i := 1) rfl (by kernel_rfl) rfl (QO.load ty3 (by rfl) (by repeat (first | exact List.Mem.head _ | refine List.Mem.tail _ ?_)) (by rfl)) ?_) | (refine RT.take (i := 1) rfl (by kernel_rfl) rfl (QO.loadO ty3 (by rfl) (by assumption)) ?_) | (refine RT.take (i := 1) rfl (by kernel_rfl) rfl (QO.load ty3 (by rfl) (by repeat (first | exact List.Mem.head _ | refine List.Mem.tail _ ?_)) (by assumption)) ?_)
                first | (refine RT.takev (i := 2) rfl (by kernel_rfl) rfl (QO.add (by rfl) (by rfl) (by omega) (by omega)) (congrArg iv (show (i : Int) + 1 = ((i + 1 : Nat) : Int) by omega)) ?_) | (refine RT.takev (i := 2) rfl (by kernel_rfl) rfl (QO.ibin (by rfl) (by rfl) trivial) (congrArg iv (show (i : Int) + 1 = ((i + 1 : Nat) : Int) by omega)) ?_)
                refine RT.one (i := 3) (by kernel_rfl) rfl rfl ?_
                first | refine RS.storeB ty34 (by rfl) (by rfl) (by rfl) (by rfl) (by rfl) (by repeat (first | exact Upd.head | apply Upd.tail)) (by rfl) ?_ | refine RS.storeP ty34 (by rfl) (by rfl) (by rfl) (by rfl) (by rfl) (by repeat (first | exact Upd.head | apply Upd.tail)) (by rfl) ?_
                refine RS.nil ⟨(by repeat (first | exact List.Sublist.refl _ | exact List.nil_sublist _ | refine List.Sublist.cons_cons _ ?_ | refine List.Sublist.cons _ ?_ | exact Sbp.refl | exact Sbp.nil | refine Sbp.cons (by repeat (first | exact Rem.head | apply Rem.tail)) ?_ | exact Sbp.app | refine Sbp.skip ?_ | exact List.sublist_append_left _ _ | exact List.sublist_append_right _ _)), ?_⟩
                refine RT.take (i := 4) rfl (by kernel_rfl) rfl (QO.assign) ?_
                refine RT.take (i := 5) rfl (by kernel_rfl) rfl (QO.assign) ?_
                refine RT.done (by kernel_rfl) ?_
                refine thenC_n ?_
                refine CS.ret ?_
                refine thenC_r ?_
                refine retQ.mk (H' := []) (.inr rfl) (RVs.cellA ty34 (by rfl) (by repeat (first | exact List.Mem.head _ | refine List.Mem.tail _ ?_)) (by rfl) (RVs.tmp (by rfl) (RVs.tmp (by rfl) RVs.nil))) (List.nil_sublist _) ?_
                have hiN : i = hN := by omega
                have hne : ¬ txt l (i + 1) = [] := bne_iff_ne.1 hb7
                have hee : endB l = false := by
                  by_cases h8 : (lns l).length = (tX l 3).toNat + 2
                  · refine endB_2 (fun h9 => hne ((txt_end l hmo).2 ⟨by omega, ?_⟩))
                    rw [hiN, ← hxN]; exact h9
                  · exact endB_1 h8
                have hpr := prs_end (l := l) (by omega) hl2.1 hhd htr (by rw [hx2, hxN, ← hiN]; exact hbz) hee
                rw [hxN, ← hiN] at hpr
                exact pr_err hpr (by decide)
              · refine CS.skip ?_
                refine thenC_n ?_
                refine CS.seq ?_
                refine CS.region ?_
                first | (refine RS.q rfl (QO.loadB ty34 (by rfl) (by repeat (first | exact List.Mem.head _ | refine List.Mem.tail _ ?_)) (by rfl)) ?_) | (refine RS.q rfl (QO.loadA ty34 (by rfl) (by repeat (first | exact List.Mem.head _ | refine List.Mem.tail _ ?_)) (by rfl) (by rfl)) ?_) | (refine RS.q rfl (QO.loadOA ty34 (by rfl) (by assumption) (by rfl)) ?_)
                first | refine RS.storeB ty34 (by rfl) (by rfl) (by rfl) (by rfl) (by rfl) (by repeat (first | exact Upd.head | apply Upd.tail)) (by rfl) ?_ | refine RS.storeP ty34 (by rfl) (by rfl) (by rfl) (by rfl) (by rfl) (by repeat (first | exact Upd.head | apply Upd.tail)) (by rfl) ?_
                refine RS.q rfl (QO.assign) ?_
                refine RS.q rfl (QO.assign) ?_
                refine RS.nil ?_
                refine thenC_n ?_
                refine CS.ret ?_
                refine retQ.mk (H' := Hr) (.inr rfl) (RVs.cellA ty34 (by rfl) (by repeat (first | exact List.Mem.head _ | refine List.Mem.tail _ ?_)) (by rfl) (RVs.tmp (by rfl) (RVs.tmp (by rfl) RVs.nil))) (sbp5 _) ?_
                have hiN : i = hN := by omega
                have he0 := of_bne_false hb7
                have hee := (txt_end l hmo).1 he0
                have hpr := prs_ok (l := l) (by omega) hl2.1 hhd htr (by rw [hx2, hxN, ← hiN]; exact hbz) (endB_T (by omega) (by rw [hxN, ← hiN]; exact hee.2))
                have hpos : 0 < wN * i := Nat.mul_pos (by omega) (by omega)
                exact pr_ok hpr hfx (by omega) hrow (by omega)

end Go.Proofs.YtapcgokcfmklbaaDoor
