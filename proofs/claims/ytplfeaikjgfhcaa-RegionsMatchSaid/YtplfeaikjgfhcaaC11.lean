/-
  Contract: RegionsMatch. Conditions: as the theorem says.
-/
import Derived.Test.YtplfeaikjgfhcaaC10
namespace Go.Proofs.Ytplfeaikjgfhcaa
open Go Go.Proofs Go.RowKit

theorem ok25 : callOK Try.prog 25 = true := by kernel_rfl
theorem ok37 : callOK Try.prog 37 = true := by kernel_rfl
theorem ok38 : callOK Try.prog 38 = true := by kernel_rfl
theorem ok39 : callOK Try.prog 39 = true := by kernel_rfl
theorem ok40 : callOK Try.prog 40 = true := by kernel_rfl
theorem ok41 : callOK Try.prog 41 = true := by kernel_rfl
theorem ok44 : callOK Try.prog 44 = true := by kernel_rfl

theorem tErr_zero {x y w h side : Int} (e : tErr x y w h side = 0) : regErr x y w h = 0 ∧ 1 ≤ side ∧ side ≤ 256 := by
  unfold tErr at e
  split at e
  · contradiction
  · rename_i h1
    split at e
    · cases e
    · exact ⟨Decidable.not_not.1 h1, by omega, by omega⟩
theorem tL_ok {x y w h side : Int} : (tL x y w h side).length ≤ 70000 ∧ (∀ t ∈ tL x y w h side, 0 ≤ area t) ∧ areas (tL x y w h side) ≤ 16384 ∧ (tErr x y w h side = 0 → areas (tL x y w h side) = w * h) := by
  by_cases e : tErr x y w h side = 0
  · obtain ⟨h1, h2, h3⟩ := tErr_zero e
    have hro := regErr_ok h1
    obtain ⟨a, rfl⟩ : ∃ a : Nat, w = a := ⟨w.toNat, by omega⟩
    obtain ⟨b, rfl⟩ : ∃ b : Nat, h = b := ⟨h.toNat, by omega⟩
    obtain ⟨s, rfl⟩ : ∃ s : Nat, side = s := ⟨side.toNat, by omega⟩
    have hs : 1 ≤ s := by omega
    have hL : tL x y a b s = rowsL x y a b s (cntI y b s) := (t_3 h1 (by omega)).2
    rw [hL]
    have hA : areas (rowsL x y a b s (cntI y b s)) = (a : Int) * (b : Int) := areas_all hs
    refine ⟨?_, fun t ht => ?_, by omega, fun _ => hA⟩
    · have := tilesL_len (X := x) (Y := y) (w := a) (h := b) (j := cntI y b s) (i := 0) hs (by omega) (by omega) (Nat.le_refl _) (Nat.zero_le _)
      rwa [tilesL_zero] at this
    · obtain ⟨i, k, hi, hk, rfl⟩ := mem_rows _ ht
      have := area_tile (X := x) (Y := y) hs (by omega) (by omega) hi hk
      omega
  · have hL : tL x y w h side = [] := if_neg e
    rw [hL]
    exact ⟨Nat.zero_le _, (fun t ht => absurd ht List.not_mem_nil), by decide, fun h0 => absurd h0 e⟩
theorem tilesX (x y wi he side : Int) (W : World) : Fn_ Try.prog 39 #[.agg #[iv x, iv y, iv wi, iv he], iv side] W (fun v H => ∃ (L : List Rg) (E : Int) (vs : Value), Hid (L = tL x y wi he side) ∧ Hid (E = tErr x y wi he side) ∧ v = .tuple #[vs, iv E] ∧ Row 23 4 vs L.length (rgs L) H) :=
  (tiles x y wi he side W).mono fun v H h => by
    obtain ⟨vs, h1, h2⟩ := h
    exact ⟨_, _, vs, rfl, rfl, h1, h2⟩
theorem rtilesX (x y wi he side : Int) (L : List Rg) (E : Int) (W : World) (hL : Hid (L = tL x y wi he side)) (hE : Hid (E = tErr x y wi he side)) (bx : -9223372036854775808 ≤ x ∧ x ≤ 9223372036854775807) : Fn_ Try.prog 40 #[.agg #[iv x, iv y, iv wi, iv he], iv side] W (fun v H => ∃ vs, v = .tuple #[vs, iv E] ∧ Row 23 4 vs L.length (rgs L) H) := by
  have hL' := hL.out
  have hE' := hE.out
  subst hL' hE'
  exact rtiles x y wi he side W bx
theorem mul_ok {L : List Rg} {q : Prop} {k : Nat} (hok : Hid (L.length ≤ 70000 ∧ (∀ t ∈ L, 0 ≤ area t) ∧ areas L ≤ 16384 ∧ q)) (hlt : k < L.length) : -16384 ≤ L[k].2.2.1 * L[k].2.2.2 ∧ L[k].2.2.1 * L[k].2.2.2 ≤ 16384 ∧ -16384 ≤ areas (L.take k) + L[k].2.2.1 * L[k].2.2.2 ∧ areas (L.take k) + L[k].2.2.1 * L[k].2.2.2 ≤ 16384 := by
  obtain ⟨_, h2, h3, _⟩ := hok.out
  have h4 := areas_take_le h2 k
  have h5 := areas_take_le h2 (k + 1)
  have h6 := areas_take_succ hlt
  have h7 : 0 ≤ area L[k] := h2 _ (List.getElem_mem hlt)
  unfold area at h7
  omega
theorem RSl.of {W w : World} {H H' : HL} {A : Option Addr} {l : List Rg} (h1 : 0 < l.length → ∃ g junk, A = some ⟨g, 0, none⟩ ∧ H = [⟨g, 23, rgs l ++ junk⟩]) (ho : Own W w H') (hs : ∀ b ∈ H, b ∈ H') : RSl w A l := fun hn => by
  obtain ⟨g, junk, rfl, rfl⟩ := h1 hn
  exact RSl.blk ho (hs _ (List.Mem.head _)) hn

set_option maxHeartbeats 4000000 in
set_option maxRecDepth 100000 in
theorem regionsMatch (ax ay aw ah bx bz bw bh n side : Int) (W : World) (hax : -9223372036854775808 ≤ ax ∧ ax ≤ 9223372036854775807) (hbx : -9223372036854775808 ≤ bx ∧ bx ≤ 9223372036854775807) : Fn_ Try.prog 6 #[.agg #[iv ax, iv ay, iv aw, iv ah], .agg #[iv bx, iv bz, iv bw, iv bh], iv n, iv side] W (fun v H => v = .bool true ∧ H = []) := by
  refine Fn_.intro Try.func6 rfl rfl (by rfl) ?_
  refine CS.seq ?_
  refine CS.region ?_
  refine RS.box rfl (by rfl) (by rfl) ?_
  intro g4
  refine RS.box rfl (by rfl) (by rfl) ?_
  intro g5
  refine RS.q rfl (QO.assign) ?_
  refine RS.nil ?_
  refine thenC_n ?_
  refine CS.seq ?_
  refine CS.seq ?_
  refine CS.region ?_
  refine RS.call rfl (by rfl) ok19 (by rfl) (fun w ho => landed _) ?_
  rintro _ _ ⟨rfl, rfl⟩
  refine RS.q rfl (QO.not (by rfl)) ?_
  refine RS.nil ?_
  refine thenC_n ?_
  refine CS.condF (by rfl) rfl ?_
  refine CS.skip ?_
  refine thenC_n ?_
  refine CS.seq ?_
  refine CS.seq ?_
  refine CS.draw 5 rfl (by kernel_rfl) (by kernel_rfl) ?_
  first | (refine RT.take (i := 0) rfl (by kernel_rfl) rfl (QO.loadB ty23 (by rfl) (by repeat (first | exact List.Mem.head _ | refine List.Mem.tail _ ?_)) (by rfl)) ?_) | (refine RT.take (i := 0) rfl (by kernel_rfl) rfl (QO.loadA ty23 (by rfl) (by repeat (first | exact List.Mem.head _ | refine List.Mem.tail _ ?_)) (by rfl) (by rfl)) ?_) | (refine RT.take (i := 0) rfl (by kernel_rfl) rfl (QO.loadOA ty23 (by rfl) (by assumption) (by rfl)) ?_)
  first | (refine RT.take (i := 2) rfl (by kernel_rfl) rfl (QO.loadB ty23 (by rfl) (by repeat (first | exact List.Mem.head _ | refine List.Mem.tail _ ?_)) (by rfl)) ?_) | (refine RT.take (i := 2) rfl (by kernel_rfl) rfl (QO.loadA ty23 (by rfl) (by repeat (first | exact List.Mem.head _ | refine List.Mem.tail _ ?_)) (by rfl) (by rfl)) ?_) | (refine RT.take (i := 2) rfl (by kernel_rfl) rfl (QO.loadOA ty23 (by rfl) (by assumption) (by rfl)) ?_)
  refine RT.one (i := 1) (by kernel_rfl) rfl rfl ?_
  refine RS.call rfl (by rfl) ok36 (by rfl) (fun w ho => checkRegion _ _ _ _ _) ?_
  rintro _ _ ⟨rfl, rfl⟩
  refine RS.nil ⟨(by repeat (first | exact List.Sublist.refl _ | exact List.nil_sublist _ | refine List.Sublist.cons_cons _ ?_ | refine List.Sublist.cons _ ?_ | exact Sbp.refl | exact Sbp.nil | refine Sbp.cons (by repeat (first | exact Rem.head | apply Rem.tail)) ?_ | exact Sbp.app | refine Sbp.skip ?_)), ?_⟩
  refine RT.one (i := 3) (by kernel_rfl) rfl rfl ?_
  refine RS.call rfl (by rfl) ok35 (by rfl) (fun w ho => regionError _ _ _ _ _ hax) ?_
  rintro _ _ ⟨rfl, rfl⟩
  refine RS.nil ⟨(by repeat (first | exact List.Sublist.refl _ | exact List.nil_sublist _ | refine List.Sublist.cons_cons _ ?_ | refine List.Sublist.cons _ ?_ | exact Sbp.refl | exact Sbp.nil | refine Sbp.cons (by repeat (first | exact Rem.head | apply Rem.tail)) ?_ | exact Sbp.app | refine Sbp.skip ?_)), ?_⟩
  refine RT.takev (i := 4) rfl (by kernel_rfl) rfl (QO.neq (by rfl) (by rfl)) (congrArg Value.bool (bne_self_eq_false _)) ?_
  refine RT.done (by kernel_rfl) ?_
  refine thenC_n ?_
  refine CS.condF (by rfl) rfl ?_
  refine CS.skip ?_
  refine thenC_n ?_
  refine CS.seq ?_
  refine CS.region ?_
  first | (refine RS.q rfl (QO.loadB ty23 (by rfl) (by repeat (first | exact List.Mem.head _ | refine List.Mem.tail _ ?_)) (by rfl)) ?_) | (refine RS.q rfl (QO.loadA ty23 (by rfl) (by repeat (first | exact List.Mem.head _ | refine List.Mem.tail _ ?_)) (by rfl) (by rfl)) ?_) | (refine RS.q rfl (QO.loadOA ty23 (by rfl) (by assumption) (by rfl)) ?_)
  refine RS.q rfl (QO.move) ?_
  refine RS.call rfl (by rfl) ok37 (by rfl) (fun w ho => grow _ _ _ _ _ _) ?_
  rintro _ _ ⟨rfl, rfl⟩
  refine RS.q rfl (QO.move) ?_
  refine RS.q rfl (QO.extract (by rfl) (by rfl)) ?_
  refine RS.q rfl (QO.extract (by rfl) (by rfl)) ?_
  refine RS.alloc rfl ty23 ?_
  intro g9
  first | refine RS.storeB ty23 (by rfl) (by rfl) (by rfl) (by rfl) (by rfl) (by repeat (first | exact Upd.head | apply Upd.tail)) (by rfl) ?_ | refine RS.storeP ty23 (by rfl) (by rfl) (by rfl) (by rfl) (by rfl) (by repeat (first | exact Upd.head | apply Upd.tail)) (by rfl) ?_
  refine RS.q rfl (QO.assign) ?_
  refine RS.nil ?_
  refine thenC_n ?_
  refine CS.seq ?_
  refine CS.region ?_
  first | (refine RS.q rfl (QO.loadB ty23 (by rfl) (by repeat (first | exact List.Mem.head _ | refine List.Mem.tail _ ?_)) (by rfl)) ?_) | (refine RS.q rfl (QO.loadA ty23 (by rfl) (by repeat (first | exact List.Mem.head _ | refine List.Mem.tail _ ?_)) (by rfl) (by rfl)) ?_) | (refine RS.q rfl (QO.loadOA ty23 (by rfl) (by assumption) (by rfl)) ?_)
  refine RS.q rfl (QO.move) ?_
  refine RS.call rfl (by rfl) ok38 (by rfl) (fun w ho => rgrow _ _ _ _ _ _ hax) ?_
  rintro _ _ ⟨rfl, rfl⟩
  refine RS.q rfl (QO.move) ?_
  refine RS.q rfl (QO.extract (by rfl) (by rfl)) ?_
  refine RS.q rfl (QO.extract (by rfl) (by rfl)) ?_
  refine RS.alloc rfl ty23 ?_
  intro g11
  first | refine RS.storeB ty23 (by rfl) (by rfl) (by rfl) (by rfl) (by rfl) (by repeat (first | exact Upd.head | apply Upd.tail)) (by rfl) ?_ | refine RS.storeP ty23 (by rfl) (by rfl) (by rfl) (by rfl) (by rfl) (by repeat (first | exact Upd.head | apply Upd.tail)) (by rfl) ?_
  refine RS.q rfl (QO.assign) ?_
  refine RS.nil ?_
  refine thenC_n ?_
  refine CS.seq ?_
  refine CS.seq ?_
  refine CS.region ?_
  first | (refine RS.q rfl (QO.loadB ty23 (by rfl) (by repeat (first | exact List.Mem.head _ | refine List.Mem.tail _ ?_)) (by rfl)) ?_) | (refine RS.q rfl (QO.loadA ty23 (by rfl) (by repeat (first | exact List.Mem.head _ | refine List.Mem.tail _ ?_)) (by rfl) (by rfl)) ?_) | (refine RS.q rfl (QO.loadOA ty23 (by rfl) (by assumption) (by rfl)) ?_)
  first | (refine RS.q rfl (QO.loadB ty23 (by rfl) (by repeat (first | exact List.Mem.head _ | refine List.Mem.tail _ ?_)) (by rfl)) ?_) | (refine RS.q rfl (QO.loadA ty23 (by rfl) (by repeat (first | exact List.Mem.head _ | refine List.Mem.tail _ ?_)) (by rfl) (by rfl)) ?_) | (refine RS.q rfl (QO.loadOA ty23 (by rfl) (by assumption) (by rfl)) ?_)
  first | (refine RS.qv rfl (QO.sneq4 eqt23 (by rfl) (by rfl)) (congrArg Value.bool (bne_self_eq_false _)) ?_) | (refine RS.qv rfl (QO.sneq eqt23 (by decide) (by rfl) (by rfl) (by rfl) (by rfl)) (congrArg Value.bool (bne_self_eq_false _)) ?_)
  refine RS.q rfl (QO.move) ?_
  refine RS.on (dj := 44) rfl (congrArg Value.bool rfl) ?_
  refine RS.q rfl (QO.move) ?_
  refine RS.on (dj := 44) rfl (congrArg Value.bool rfl) ?_
  refine RS.q rfl (QO.move) ?_
  refine RS.on (dj := 44) rfl (congrArg Value.bool rfl) ?_
  refine RS.qv rfl (QO.neq (by rfl) (by rfl)) (congrArg Value.bool (bne_self_eq_false _)) ?_
  refine RS.q rfl (QO.pickF (by rfl) rfl (by rfl)) ?_
  refine RS.nil ?_
  refine thenC_n ?_
  refine CS.condF (by rfl) rfl ?_
  refine CS.skip ?_
  refine thenC_n ?_
  refine CS.seq ?_
  refine CS.region ?_
  first | (refine RS.q rfl (QO.loadB ty23 (by rfl) (by repeat (first | exact List.Mem.head _ | refine List.Mem.tail _ ?_)) (by rfl)) ?_) | (refine RS.q rfl (QO.loadA ty23 (by rfl) (by repeat (first | exact List.Mem.head _ | refine List.Mem.tail _ ?_)) (by rfl) (by rfl)) ?_) | (refine RS.q rfl (QO.loadOA ty23 (by rfl) (by assumption) (by rfl)) ?_)
  refine RS.q rfl (QO.move) ?_
  refine RS.call rfl (by rfl) ok39 (by rfl) (fun w ho => tilesX _ _ _ _ _ _) ?_
  intro v52 H52 h52
  obtain ⟨L, E, vs1, hL, hE, rfl, hrow1⟩ := h52
  obtain ⟨A1, c1, rfl, hc1, hcx1, ho1⟩ := hrow1.opn
  refine RS.perm List.perm_append_comm ?_
  refine RS.q rfl (QO.move) ?_
  refine RS.q rfl (QO.extract (by rfl) (by rfl)) ?_
  refine RS.q rfl (QO.extract (by rfl) (by rfl)) ?_
  refine RS.q rfl (QO.assign) ?_
  refine RS.q rfl (QO.assign) ?_
  refine RS.nil ?_
  refine thenC_n ?_
  refine CS.seq ?_
  refine CS.region ?_
  first | (refine RS.q rfl (QO.loadB ty23 (by rfl) (by repeat (first | exact List.Mem.head _ | refine List.Mem.tail _ ?_)) (by rfl)) ?_) | (refine RS.q rfl (QO.loadA ty23 (by rfl) (by repeat (first | exact List.Mem.head _ | refine List.Mem.tail _ ?_)) (by rfl) (by rfl)) ?_) | (refine RS.q rfl (QO.loadOA ty23 (by rfl) (by assumption) (by rfl)) ?_)
  refine RS.q rfl (QO.move) ?_
  refine RS.call rfl (by rfl) ok40 (by rfl) (fun w ho => rtilesX _ _ _ _ _ L E _ hL hE hax) ?_
  intro v58 H58 h58
  obtain ⟨vs2, rfl, hrow2⟩ := h58
  obtain ⟨A2, c2, rfl, hc2, hcx2, ho2⟩ := hrow2.opn
  refine RS.perm List.perm_append_comm ?_
  refine RS.q rfl (QO.move) ?_
  refine RS.q rfl (QO.extract (by rfl) (by rfl)) ?_
  refine RS.q rfl (QO.extract (by rfl) (by rfl)) ?_
  refine RS.q rfl (QO.assign) ?_
  refine RS.q rfl (QO.assign) ?_
  refine RS.nil ?_
  refine thenC_n ?_
  refine CS.seq ?_
  refine CS.seq ?_
  refine CS.region ?_
  clear hcx1 hcx2
  have hok : Hid (L.length ≤ 70000 ∧ (∀ t ∈ L, 0 ≤ area t) ∧ areas L ≤ 16384 ∧ (E = 0 → areas L = aw * ah)) := by
    have h := tL_ok (x := ax) (y := ay) (w := aw) (h := ah) (side := side)
    rw [← hL.out, ← hE.out] at h
    exact h
  refine RS.q rfl (QO.move) ?_
  refine RS.q rfl (QO.move) ?_
  refine RS.qv rfl (QO.neq (by rfl) (by rfl)) (congrArg Value.bool (bne_self_eq_false _)) ?_
  refine RS.q rfl (QO.move) ?_
  refine RS.on (dj := 64) rfl (congrArg Value.bool rfl) ?_
  refine RS.q rfl (QO.move) ?_
  refine RS.on (dj := 64) rfl (congrArg Value.bool rfl) ?_
  refine RS.q rfl (QO.move) ?_
  refine RS.on (dj := 64) rfl (congrArg Value.bool rfl) ?_
  refine RS.call rfl (by rfl) ok41 (by rfl) (fun w ho => eqR _ _ _ _ _ _ L w rfl rfl (RSl.of ho1 ho (fun q hq => by simp [hq])) (RSl.of ho2 ho (fun q hq => by simp [hq])) (by have := hok.out.1; omega)) ?_
  rintro _ _ ⟨rfl, rfl⟩
  refine RS.on (dj := 64) rfl (congrArg Value.bool rfl) ?_
  refine RS.q rfl (QO.not (by rfl)) ?_
  refine RS.q rfl (QO.pickF (by rfl) rfl (by rfl)) ?_
  refine RS.nil ?_
  refine thenC_n ?_
  refine CS.condF (by rfl) rfl ?_
  refine CS.skip ?_
  refine thenC_n ?_
  refine CS.seq ?_
  refine CS.region ?_
  refine RS.q rfl (QO.assign) ?_
  refine RS.nil ?_
  refine thenC_n ?_
  refine CS.seq ?_
  refine CS.seq ?_
  refine CS.region ?_
  refine RS.q rfl (QO.move) ?_
  refine RS.q rfl (QO.lenS Try.underlying55 (by rfl)) ?_
  refine RS.q rfl (QO.move) ?_
  refine RS.nil ?_
  refine thenC_n ?_
  refine CS.block ?_
  refine CS.loop (X := Nat) (15 :: 17 :: 72 :: 73 :: 74 :: 75 :: 76 :: 77 :: 78 :: 79 :: 80 :: 81 :: 82 :: 83 :: []) (fun k => [(72, iv (k : Int)), (15, iv (areas (L.take k)))]) (fun k => ⟨g5, 23, [iv bx, iv bz, iv bw, iv bh]⟩ :: ⟨g4, 23, [iv ax, iv ay, iv aw, iv ah]⟩ :: H52) (fun k => k ≤ L.length) (fun k => L.length - k) 0 (Nat.zero_le _) ?_ ?_ ?_
  · exact (by repeat (first | exact kn_nil | refine kn_cons (by rfl) ?_))
  · exact (by repeat (first | exact List.Sublist.refl _ | exact List.nil_sublist _ | refine List.Sublist.cons_cons _ ?_ | refine List.Sublist.cons _ ?_ | exact Sbp.refl | exact Sbp.nil | refine Sbp.cons (by repeat (first | exact Rem.head | apply Rem.tail)) ?_ | exact Sbp.app | refine Sbp.skip ?_))
  · intro k gj15 hz
    refine CS.seq ?_
    refine CS.region ?_
    refine RS.q rfl (QO.lss (by rfl) (by rfl)) ?_
    refine RS.nil ?_
    refine thenC_n ?_
    refine CS.seq ?_
    refine CS.cond (by rfl) (fun hb0 => ?_) (fun hb0 => ?_)
    · have hb0p := of_decide_eq_true hb0
      refine CS.skip ?_
      refine thenC_n ?_
      refine CS.seq ?_
      refine CS.block ?_
      refine CS.seq ?_
      refine CS.region ?_
      have hlt : k < L.length := Int.ofNat_lt.1 hb0p
      have hx := ho1 (Nat.lt_of_le_of_lt (Nat.zero_le _) hlt)
      obtain ⟨gt, jt, hA1, hH1⟩ := hx
      refine RS.q rfl (QO.idx Try.underlying55 ty23 (congrArg (fun A => Value.slice A L.length c1) hA1) (by rfl) (by omega) (by omega)) ?_
      refine RS.q rfl (QO.loadA ty23 (vs := rgc L[k]) (by rfl) (List.Mem.tail _ (List.Mem.tail _ (show _ ∈ H52 from by rw [hH1]; exact List.Mem.head _))) (show ((rgs L ++ jt).drop (0 + ((k : Nat) : Int).toNat * 4)).take 4 = _ from by rw [Nat.zero_add, Int.toNat_natCast]; exact rgs_take hlt) (by rfl)) ?_
      refine RS.alloc rfl ty23 ?_
      intro g17
      first | refine RS.storeB ty23 (by rfl) (by rfl) (by rfl) (by rfl) (by rfl) (by repeat (first | exact Upd.head | apply Upd.tail)) (by rfl) ?_ | refine RS.storeP ty23 (by rfl) (by rfl) (by rfl) (by rfl) (by rfl) (by repeat (first | exact Upd.head | apply Upd.tail)) (by rfl) ?_
      refine RS.nil ?_
      refine thenC_n ?_
      refine CS.region ?_
      refine RS.q rfl (QO.move) ?_
      refine RS.q rfl (QO.fieldAddr fo23_2 (by rfl)) ?_
      first | (refine RS.q rfl (QO.load ty3 (by rfl) (by repeat (first | exact List.Mem.head _ | refine List.Mem.tail _ ?_)) (by rfl)) ?_) | (refine RS.q rfl (QO.loadO ty3 (by rfl) (by assumption)) ?_) | (refine RS.q rfl (QO.load ty3 (by rfl) (by repeat (first | exact List.Mem.head _ | refine List.Mem.tail _ ?_)) (by assumption)) ?_)
      refine RS.q rfl (QO.fieldAddr fo23_3 (by rfl)) ?_
      first | (refine RS.q rfl (QO.load ty3 (by rfl) (by repeat (first | exact List.Mem.head _ | refine List.Mem.tail _ ?_)) (by rfl)) ?_) | (refine RS.q rfl (QO.loadO ty3 (by rfl) (by assumption)) ?_) | (refine RS.q rfl (QO.load ty3 (by rfl) (by repeat (first | exact List.Mem.head _ | refine List.Mem.tail _ ?_)) (by assumption)) ?_)
      have hP := mul_ok hok hlt
      refine RS.q rfl (QO.mul (by rfl) (by rfl) (Int.le_trans (by decide) hP.1) (Int.le_trans hP.2.1 (by decide))) ?_
      refine RS.q rfl (QO.add (by rfl) (by rfl) (Int.le_trans (by decide) hP.2.2.1) (Int.le_trans hP.2.2.2 (by decide))) ?_
      refine RS.q rfl (QO.assign) ?_
      refine RS.nil ?_
      refine blockC_n ?_
      refine thenC_n ?_
      refine CS.region ?_
      have hln := hok.out.1
      first | (refine RS.q rfl (QO.add (by rfl) (by rfl) (by omega) (by omega)) ?_) | (refine RS.q rfl (QO.ibin (by rfl) (by rfl) trivial) ?_)
      refine RS.q rfl (QO.move) ?_
      refine RS.nil ?_
      refine loopQ_n (by intro t ht; repeat (first | exact frame_puts ht (frame_mix ht) _ rfl | (refine frame_put rfl ht ?_) | (refine frame_puts ht ?_ _ rfl) | exact frame_mix ht | (refine frame_mix2 rfl ht ?_) | exact rfl)) ?_
      exact ⟨k + 1, by omega, by omega, kn_cons (by rfl) (kn_cons (congrArg iv (areas_take_succ hlt).symm) kn_nil), (by repeat (first | exact List.Sublist.refl _ | exact List.nil_sublist _ | refine List.Sublist.cons_cons _ ?_ | refine List.Sublist.cons _ ?_ | exact Sbp.refl | exact Sbp.nil | refine Sbp.cons (by repeat (first | exact Rem.head | apply Rem.tail)) ?_ | exact Sbp.app | refine Sbp.skip ?_))⟩
    · have hb0p := of_decide_eq_false hb0
      refine CS.exit ?_
      refine thenC_x ?_
      refine loopQ_x ?_
      refine blockC_x ?_
      refine thenC_n ?_
      refine CS.seq ?_
      refine CS.seq ?_
      refine CS.region ?_
      have hkl : k = L.length := by omega
      refine RS.q rfl (QO.move) ?_
      refine RS.q rfl (QO.eql (by rfl) (by rfl)) ?_
      refine RS.q rfl (QO.move) ?_
      refine RS.split (dj := 86) (by rfl) (fun hb1 => ?_) (fun hb1 => ?_)
      · have hb1p := eq_of_beq hb1
        refine RS.on (dj := 86) rfl (congrArg Value.bool hb1) ?_
        have hte : E = 0 := eq_of_beq ‹(E == 0) = true›
        have hro := regErr_ok (tErr_zero (hE.out ▸ hte)).1
        refine RS.q rfl (QO.move) ?_
        refine RS.on (dj := 86) rfl (congrArg Value.bool hb1) ?_
        refine RS.q rfl (QO.fieldAddr fo23_2 (by rfl)) ?_
        refine RS.on (dj := 86) rfl (congrArg Value.bool hb1) ?_
        first | (refine RS.q rfl (QO.load ty3 (by rfl) (by repeat (first | exact List.Mem.head _ | refine List.Mem.tail _ ?_)) (by rfl)) ?_) | (refine RS.q rfl (QO.loadO ty3 (by rfl) (by assumption)) ?_) | (refine RS.q rfl (QO.load ty3 (by rfl) (by repeat (first | exact List.Mem.head _ | refine List.Mem.tail _ ?_)) (by assumption)) ?_)
        refine RS.on (dj := 86) rfl (congrArg Value.bool hb1) ?_
        refine RS.q rfl (QO.fieldAddr fo23_3 (by rfl)) ?_
        refine RS.on (dj := 86) rfl (congrArg Value.bool hb1) ?_
        first | (refine RS.q rfl (QO.load ty3 (by rfl) (by repeat (first | exact List.Mem.head _ | refine List.Mem.tail _ ?_)) (by rfl)) ?_) | (refine RS.q rfl (QO.loadO ty3 (by rfl) (by assumption)) ?_) | (refine RS.q rfl (QO.load ty3 (by rfl) (by repeat (first | exact List.Mem.head _ | refine List.Mem.tail _ ?_)) (by assumption)) ?_)
        refine RS.on (dj := 86) rfl (congrArg Value.bool hb1) ?_
        first | (refine RS.q rfl (QO.mul (by rfl) (by rfl) (by omega) (by omega)) ?_) | (refine RS.q rfl (QO.ibin (by rfl) (by rfl) trivial) ?_)
        refine RS.on (dj := 86) rfl (congrArg Value.bool hb1) ?_
        refine RS.qv rfl (QO.neq (by rfl) (by rfl)) (congrArg Value.bool (show (areas (L.take k) != aw * ah) = false from by rw [hkl, List.take_length, hok.out.2.2.2 hte]; exact bne_self_eq_false _)) ?_
        refine RS.q rfl (QO.pickT (by rfl) hb1 (by rfl)) ?_
        refine RS.nil ?_
        refine thenC_n ?_
        refine CS.condF (by rfl) rfl ?_
        refine CS.skip ?_
        refine thenC_n ?_
        refine CS.seq ?_
        refine CS.seq ?_
        refine CS.region ?_
        first | (refine RS.q rfl (QO.loadB ty23 (by rfl) (by repeat (first | exact List.Mem.head _ | refine List.Mem.tail _ ?_)) (by rfl)) ?_) | (refine RS.q rfl (QO.loadA ty23 (by rfl) (by repeat (first | exact List.Mem.head _ | refine List.Mem.tail _ ?_)) (by rfl) (by rfl)) ?_) | (refine RS.q rfl (QO.loadOA ty23 (by rfl) (by assumption) (by rfl)) ?_)
        refine RS.call rfl (by rfl) ok35 (by rfl) (fun w ho => regionError _ _ _ _ _ hax) ?_
        rintro _ _ ⟨rfl, rfl⟩
        refine RS.q rfl (QO.neq (by rfl) (by rfl)) ?_
        refine RS.q rfl (QO.move) ?_
        refine RS.split (dj := 98) (by rfl) (fun hb2 => ?_) (fun hb2 => ?_)
        · have hb2p := bne_iff_ne.1 hb2
          refine RS.off (dj := 98) rfl (.inl (congrArg Value.bool hb2)) (fun _ => rfl) rfl ?_
          refine RS.off (dj := 98) rfl (.inl (congrArg Value.bool hb2)) (fun _ => rfl) rfl ?_
          refine RS.off (dj := 98) rfl (.inl (congrArg Value.bool hb2)) (fun _ => rfl) rfl ?_
          refine RS.q rfl (QO.pickT (by rfl) hb2 (by rfl)) ?_
          refine RS.nil ?_
          refine thenC_n ?_
          refine CS.condT (by rfl) rfl ?_
          refine CS.seq ?_
          refine CS.region ?_
          refine RS.q rfl (QO.assign) ?_
          refine RS.nil ?_
          refine thenC_n ?_
          refine CS.ret ?_
          refine thenC_r ?_
          refine retQ.mk (H' := []) (.inr rfl) (RVs.tmp (by rfl) RVs.nil) (List.nil_sublist _) ?_
          exact ⟨rfl, rfl⟩
        · have hb2p := of_bne_false hb2
          refine RS.on (dj := 98) rfl (congrArg Value.bool hb2) ?_
          first | (refine RS.q rfl (QO.loadB ty23 (by rfl) (by repeat (first | exact List.Mem.head _ | refine List.Mem.tail _ ?_)) (by rfl)) ?_) | (refine RS.q rfl (QO.loadA ty23 (by rfl) (by repeat (first | exact List.Mem.head _ | refine List.Mem.tail _ ?_)) (by rfl) (by rfl)) ?_) | (refine RS.q rfl (QO.loadOA ty23 (by rfl) (by assumption) (by rfl)) ?_)
          refine RS.on (dj := 98) rfl (congrArg Value.bool hb2) ?_
          refine RS.call rfl (by rfl) ok35 (by rfl) (fun w ho => regionError _ _ _ _ _ hbx) ?_
          rintro _ _ ⟨rfl, rfl⟩
          refine RS.on (dj := 98) rfl (congrArg Value.bool hb2) ?_
          refine RS.q rfl (QO.neq (by rfl) (by rfl)) ?_
          refine RS.q rfl (QO.pickF (by rfl) hb2 (by rfl)) ?_
          refine RS.nil ?_
          refine thenC_n ?_
          refine CS.cond (by rfl) (fun hb3 => ?_) (fun hb3 => ?_)
          · have hb3p := bne_iff_ne.1 hb3
            refine CS.seq ?_
            refine CS.region ?_
            refine RS.q rfl (QO.assign) ?_
            refine RS.nil ?_
            refine thenC_n ?_
            refine CS.ret ?_
            refine thenC_r ?_
            refine retQ.mk (H' := []) (.inr rfl) (RVs.tmp (by rfl) RVs.nil) (List.nil_sublist _) ?_
            exact ⟨rfl, rfl⟩
          · have hb3p := of_bne_false hb3
            refine CS.skip ?_
            refine thenC_n ?_
            refine CS.seq ?_
            refine CS.region ?_
            have ha9 := regErr_ok (of_bne_false ‹(regErr ax ay aw ah != 0) = false›)
            have hb9 := regErr_ok (of_bne_false ‹(regErr bx bz bw bh != 0) = false›)
            first | (refine RS.q rfl (QO.loadB ty23 (by rfl) (by repeat (first | exact List.Mem.head _ | refine List.Mem.tail _ ?_)) (by rfl)) ?_) | (refine RS.q rfl (QO.loadA ty23 (by rfl) (by repeat (first | exact List.Mem.head _ | refine List.Mem.tail _ ?_)) (by rfl) (by rfl)) ?_) | (refine RS.q rfl (QO.loadOA ty23 (by rfl) (by assumption) (by rfl)) ?_)
            first | (refine RS.q rfl (QO.loadB ty23 (by rfl) (by repeat (first | exact List.Mem.head _ | refine List.Mem.tail _ ?_)) (by rfl)) ?_) | (refine RS.q rfl (QO.loadA ty23 (by rfl) (by repeat (first | exact List.Mem.head _ | refine List.Mem.tail _ ?_)) (by rfl) (by rfl)) ?_) | (refine RS.q rfl (QO.loadOA ty23 (by rfl) (by assumption) (by rfl)) ?_)
            refine RS.call rfl (by rfl) ok42 (by rfl) (fun w ho => common_ _ _ _ _ _ _ _ _ _ (by omega) (by omega) (by omega) (by omega) (by omega) (by omega) (by omega) (by omega)) ?_
            rintro _ _ ⟨rfl, rfl⟩
            refine RS.q rfl (QO.move) ?_
            refine RS.q rfl (QO.extract (by rfl) (by rfl)) ?_
            refine RS.q rfl (QO.extract (by rfl) (by rfl)) ?_
            refine RS.alloc rfl ty23 ?_
            intro g18
            first | refine RS.storeB ty23 (by rfl) (by rfl) (by rfl) (by rfl) (by rfl) (by repeat (first | exact Upd.head | apply Upd.tail)) (by rfl) ?_ | refine RS.storeP ty23 (by rfl) (by rfl) (by rfl) (by rfl) (by rfl) (by repeat (first | exact Upd.head | apply Upd.tail)) (by rfl) ?_
            refine RS.q rfl (QO.assign) ?_
            refine RS.nil ?_
            refine thenC_n ?_
            refine CS.seq ?_
            refine CS.region ?_
            first | (refine RS.q rfl (QO.loadB ty23 (by rfl) (by repeat (first | exact List.Mem.head _ | refine List.Mem.tail _ ?_)) (by rfl)) ?_) | (refine RS.q rfl (QO.loadA ty23 (by rfl) (by repeat (first | exact List.Mem.head _ | refine List.Mem.tail _ ?_)) (by rfl) (by rfl)) ?_) | (refine RS.q rfl (QO.loadOA ty23 (by rfl) (by assumption) (by rfl)) ?_)
            first | (refine RS.q rfl (QO.loadB ty23 (by rfl) (by repeat (first | exact List.Mem.head _ | refine List.Mem.tail _ ?_)) (by rfl)) ?_) | (refine RS.q rfl (QO.loadA ty23 (by rfl) (by repeat (first | exact List.Mem.head _ | refine List.Mem.tail _ ?_)) (by rfl) (by rfl)) ?_) | (refine RS.q rfl (QO.loadOA ty23 (by rfl) (by assumption) (by rfl)) ?_)
            refine RS.call rfl (by rfl) ok43 (by rfl) (fun w ho => rcommon _ _ _ _ _ _ _ _ _ (by omega) (by omega) (by omega) (by omega) (by omega) (by omega) (by omega) (by omega)) ?_
            rintro _ _ ⟨rfl, rfl⟩
            refine RS.q rfl (QO.move) ?_
            refine RS.q rfl (QO.extract (by rfl) (by rfl)) ?_
            refine RS.q rfl (QO.extract (by rfl) (by rfl)) ?_
            refine RS.alloc rfl ty23 ?_
            intro g20
            first | refine RS.storeB ty23 (by rfl) (by rfl) (by rfl) (by rfl) (by rfl) (by repeat (first | exact Upd.head | apply Upd.tail)) (by rfl) ?_ | refine RS.storeP ty23 (by rfl) (by rfl) (by rfl) (by rfl) (by rfl) (by repeat (first | exact Upd.head | apply Upd.tail)) (by rfl) ?_
            refine RS.q rfl (QO.assign) ?_
            refine RS.nil ?_
            refine thenC_n ?_
            refine CS.seq ?_
            refine CS.draw 18 rfl (by kernel_rfl) (by kernel_rfl) ?_
            first | (refine RT.take (i := 0) rfl (by kernel_rfl) rfl (QO.loadB ty23 (by rfl) (by repeat (first | exact List.Mem.head _ | refine List.Mem.tail _ ?_)) (by rfl)) ?_) | (refine RT.take (i := 0) rfl (by kernel_rfl) rfl (QO.loadA ty23 (by rfl) (by repeat (first | exact List.Mem.head _ | refine List.Mem.tail _ ?_)) (by rfl) (by rfl)) ?_) | (refine RT.take (i := 0) rfl (by kernel_rfl) rfl (QO.loadOA ty23 (by rfl) (by assumption) (by rfl)) ?_)
            first | (refine RT.take (i := 1) rfl (by kernel_rfl) rfl (QO.loadB ty23 (by rfl) (by repeat (first | exact List.Mem.head _ | refine List.Mem.tail _ ?_)) (by rfl)) ?_) | (refine RT.take (i := 1) rfl (by kernel_rfl) rfl (QO.loadA ty23 (by rfl) (by repeat (first | exact List.Mem.head _ | refine List.Mem.tail _ ?_)) (by rfl) (by rfl)) ?_) | (refine RT.take (i := 1) rfl (by kernel_rfl) rfl (QO.loadOA ty23 (by rfl) (by assumption) (by rfl)) ?_)
            first | (refine RT.takev (i := 2) rfl (by kernel_rfl) rfl (QO.seql4 eqt23 (by rfl) (by rfl)) (congrArg Value.bool (beq_self_eq_true _)) ?_) | (refine RT.takev (i := 2) rfl (by kernel_rfl) rfl (QO.seql eqt23 (by decide) (by rfl) (by rfl) (by rfl) (by rfl)) (congrArg Value.bool (beq_self_eq_true _)) ?_)
            refine RT.take (i := 3) rfl (by kernel_rfl) rfl (QO.move) ?_
            refine RT.takeOn (i := 4) (dj := 118) rfl rfl (congrArg Value.bool rfl) (by kernel_rfl) rfl (QO.move) ?_
            refine RT.takeOn (i := 5) (dj := 118) rfl rfl (congrArg Value.bool rfl) (by kernel_rfl) rfl (QO.move) ?_
            refine RT.takeOnv (i := 6) (dj := 118) rfl rfl (congrArg Value.bool rfl) (by kernel_rfl) rfl (QO.beql Try.underlying4 (by rfl) (by rfl)) (congrArg Value.bool (beq_self_eq_true _)) ?_
            refine RT.take (i := 7) rfl (by kernel_rfl) rfl (QO.pickT (by rfl) rfl (by rfl)) ?_
            refine RT.take (i := 8) rfl (by kernel_rfl) rfl (QO.move) ?_
            first | (refine RT.takeOn (i := 9) (dj := 123) rfl rfl (congrArg Value.bool rfl) (by kernel_rfl) rfl (QO.loadB ty23 (by rfl) (by repeat (first | exact List.Mem.head _ | refine List.Mem.tail _ ?_)) (by rfl)) ?_) | (refine RT.takeOn (i := 9) (dj := 123) rfl rfl (congrArg Value.bool rfl) (by kernel_rfl) rfl (QO.loadA ty23 (by rfl) (by repeat (first | exact List.Mem.head _ | refine List.Mem.tail _ ?_)) (by rfl) (by rfl)) ?_) | (refine RT.takeOn (i := 9) (dj := 123) rfl rfl (congrArg Value.bool rfl) (by kernel_rfl) rfl (QO.loadOA ty23 (by rfl) (by assumption) (by rfl)) ?_)
            first | (refine RT.takeOn (i := 10) (dj := 123) rfl rfl (congrArg Value.bool rfl) (by kernel_rfl) rfl (QO.loadB ty23 (by rfl) (by repeat (first | exact List.Mem.head _ | refine List.Mem.tail _ ?_)) (by rfl)) ?_) | (refine RT.takeOn (i := 10) (dj := 123) rfl rfl (congrArg Value.bool rfl) (by kernel_rfl) rfl (QO.loadA ty23 (by rfl) (by repeat (first | exact List.Mem.head _ | refine List.Mem.tail _ ?_)) (by rfl) (by rfl)) ?_) | (refine RT.takeOn (i := 10) (dj := 123) rfl rfl (congrArg Value.bool rfl) (by kernel_rfl) rfl (QO.loadOA ty23 (by rfl) (by assumption) (by rfl)) ?_)
            first | (refine RT.takeOn (i := 12) (dj := 123) rfl rfl (congrArg Value.bool rfl) (by kernel_rfl) rfl (QO.loadB ty23 (by rfl) (by repeat (first | exact List.Mem.head _ | refine List.Mem.tail _ ?_)) (by rfl)) ?_) | (refine RT.takeOn (i := 12) (dj := 123) rfl rfl (congrArg Value.bool rfl) (by kernel_rfl) rfl (QO.loadA ty23 (by rfl) (by repeat (first | exact List.Mem.head _ | refine List.Mem.tail _ ?_)) (by rfl) (by rfl)) ?_) | (refine RT.takeOn (i := 12) (dj := 123) rfl rfl (congrArg Value.bool rfl) (by kernel_rfl) rfl (QO.loadOA ty23 (by rfl) (by assumption) (by rfl)) ?_)
            first | (refine RT.takeOn (i := 13) (dj := 123) rfl rfl (congrArg Value.bool rfl) (by kernel_rfl) rfl (QO.loadB ty23 (by rfl) (by repeat (first | exact List.Mem.head _ | refine List.Mem.tail _ ?_)) (by rfl)) ?_) | (refine RT.takeOn (i := 13) (dj := 123) rfl rfl (congrArg Value.bool rfl) (by kernel_rfl) rfl (QO.loadA ty23 (by rfl) (by repeat (first | exact List.Mem.head _ | refine List.Mem.tail _ ?_)) (by rfl) (by rfl)) ?_) | (refine RT.takeOn (i := 13) (dj := 123) rfl rfl (congrArg Value.bool rfl) (by kernel_rfl) rfl (QO.loadOA ty23 (by rfl) (by assumption) (by rfl)) ?_)
            refine RT.one (i := 11) (by kernel_rfl) rfl rfl ?_
            refine RS.on (dj := 123) rfl (congrArg Value.bool rfl) ?_
            refine RS.call rfl (by rfl) ok44 (by rfl) (fun w ho => inside _ _ _ _ _ _ _ _ _ (by omega) (by omega) (by omega) (by omega) (by omega) (by omega) (by omega) (by omega)) ?_
            rintro _ _ ⟨rfl, rfl⟩
            refine RS.nil ⟨(by repeat (first | exact List.Sublist.refl _ | exact List.nil_sublist _ | refine List.Sublist.cons_cons _ ?_ | refine List.Sublist.cons _ ?_ | exact Sbp.refl | exact Sbp.nil | refine Sbp.cons (by repeat (first | exact Rem.head | apply Rem.tail)) ?_ | exact Sbp.app | refine Sbp.skip ?_)), ?_⟩
            refine RT.one (i := 14) (by kernel_rfl) rfl rfl ?_
            refine RS.on (dj := 123) rfl (congrArg Value.bool rfl) ?_
            refine RS.call rfl (by rfl) ok25 (by rfl) (fun w ho => rinside _ _ _ _ _ _ _ _ _ (by omega) (by omega) (by omega) (by omega) (by omega) (by omega)) ?_
            rintro _ _ ⟨rfl, rfl⟩
            refine RS.nil ⟨(by repeat (first | exact List.Sublist.refl _ | exact List.nil_sublist _ | refine List.Sublist.cons_cons _ ?_ | refine List.Sublist.cons _ ?_ | exact Sbp.refl | exact Sbp.nil | refine Sbp.cons (by repeat (first | exact Rem.head | apply Rem.tail)) ?_ | exact Sbp.app | refine Sbp.skip ?_)), ?_⟩
            refine RT.takeOnv (i := 15) (dj := 123) rfl rfl (congrArg Value.bool rfl) (by kernel_rfl) rfl (QO.beql Try.underlying4 (by rfl) (by rfl)) (congrArg Value.bool (beq_self_eq_true _)) ?_
            refine RT.take (i := 16) rfl (by kernel_rfl) rfl (QO.pickT (by rfl) rfl (by rfl)) ?_
            refine RT.take (i := 17) rfl (by kernel_rfl) rfl (QO.assign) ?_
            refine RT.done (by kernel_rfl) ?_
            refine thenC_n ?_
            refine CS.ret ?_
            refine retQ.mk (H' := []) (.inr rfl) (RVs.tmp (by rfl) RVs.nil) (List.nil_sublist _) ?_
            exact ⟨rfl, rfl⟩
      · have hb1p := ne_of_beq_false hb1
        refine RS.off (dj := 86) rfl (.inl (congrArg Value.bool hb1)) (fun _ => rfl) rfl ?_
        refine RS.off (dj := 86) rfl (.inl (congrArg Value.bool hb1)) (fun _ => rfl) rfl ?_
        refine RS.off (dj := 86) rfl (.inl (congrArg Value.bool hb1)) (fun _ => rfl) rfl ?_
        refine RS.off (dj := 86) rfl (.inl (congrArg Value.bool hb1)) (fun _ => rfl) rfl ?_
        refine RS.off (dj := 86) rfl (.inl (congrArg Value.bool hb1)) (fun _ => rfl) rfl ?_
        refine RS.off (dj := 86) rfl (.inl (congrArg Value.bool hb1)) (fun _ => rfl) rfl ?_
        refine RS.off (dj := 86) rfl (.inl (congrArg Value.bool hb1)) (fun _ => rfl) rfl ?_
        refine RS.q rfl (QO.pickF (by rfl) hb1 (by rfl)) ?_
        refine RS.nil ?_
        refine thenC_n ?_
        refine CS.condF (by rfl) rfl ?_
        refine CS.skip ?_
        refine thenC_n ?_
        refine CS.seq ?_
        refine CS.seq ?_
        refine CS.region ?_
        first | (refine RS.q rfl (QO.loadB ty23 (by rfl) (by repeat (first | exact List.Mem.head _ | refine List.Mem.tail _ ?_)) (by rfl)) ?_) | (refine RS.q rfl (QO.loadA ty23 (by rfl) (by repeat (first | exact List.Mem.head _ | refine List.Mem.tail _ ?_)) (by rfl) (by rfl)) ?_) | (refine RS.q rfl (QO.loadOA ty23 (by rfl) (by assumption) (by rfl)) ?_)
        refine RS.call rfl (by rfl) ok35 (by rfl) (fun w ho => regionError _ _ _ _ _ hax) ?_
        rintro _ _ ⟨rfl, rfl⟩
        refine RS.q rfl (QO.neq (by rfl) (by rfl)) ?_
        refine RS.q rfl (QO.move) ?_
        refine RS.split (dj := 98) (by rfl) (fun hb4 => ?_) (fun hb4 => ?_)
        · have hb4p := bne_iff_ne.1 hb4
          refine RS.off (dj := 98) rfl (.inl (congrArg Value.bool hb4)) (fun _ => rfl) rfl ?_
          refine RS.off (dj := 98) rfl (.inl (congrArg Value.bool hb4)) (fun _ => rfl) rfl ?_
          refine RS.off (dj := 98) rfl (.inl (congrArg Value.bool hb4)) (fun _ => rfl) rfl ?_
          refine RS.q rfl (QO.pickT (by rfl) hb4 (by rfl)) ?_
          refine RS.nil ?_
          refine thenC_n ?_
          refine CS.condT (by rfl) rfl ?_
          refine CS.seq ?_
          refine CS.region ?_
          refine RS.q rfl (QO.assign) ?_
          refine RS.nil ?_
          refine thenC_n ?_
          refine CS.ret ?_
          refine thenC_r ?_
          refine retQ.mk (H' := []) (.inr rfl) (RVs.tmp (by rfl) RVs.nil) (List.nil_sublist _) ?_
          exact ⟨rfl, rfl⟩
        · have hb4p := of_bne_false hb4
          refine RS.on (dj := 98) rfl (congrArg Value.bool hb4) ?_
          first | (refine RS.q rfl (QO.loadB ty23 (by rfl) (by repeat (first | exact List.Mem.head _ | refine List.Mem.tail _ ?_)) (by rfl)) ?_) | (refine RS.q rfl (QO.loadA ty23 (by rfl) (by repeat (first | exact List.Mem.head _ | refine List.Mem.tail _ ?_)) (by rfl) (by rfl)) ?_) | (refine RS.q rfl (QO.loadOA ty23 (by rfl) (by assumption) (by rfl)) ?_)
          refine RS.on (dj := 98) rfl (congrArg Value.bool hb4) ?_
          refine RS.call rfl (by rfl) ok35 (by rfl) (fun w ho => regionError _ _ _ _ _ hbx) ?_
          rintro _ _ ⟨rfl, rfl⟩
          refine RS.on (dj := 98) rfl (congrArg Value.bool hb4) ?_
          refine RS.q rfl (QO.neq (by rfl) (by rfl)) ?_
          refine RS.q rfl (QO.pickF (by rfl) hb4 (by rfl)) ?_
          refine RS.nil ?_
          refine thenC_n ?_
          refine CS.cond (by rfl) (fun hb5 => ?_) (fun hb5 => ?_)
          · have hb5p := bne_iff_ne.1 hb5
            refine CS.seq ?_
            refine CS.region ?_
            refine RS.q rfl (QO.assign) ?_
            refine RS.nil ?_
            refine thenC_n ?_
            refine CS.ret ?_
            refine thenC_r ?_
            refine retQ.mk (H' := []) (.inr rfl) (RVs.tmp (by rfl) RVs.nil) (List.nil_sublist _) ?_
            exact ⟨rfl, rfl⟩
          · have hb5p := of_bne_false hb5
            refine CS.skip ?_
            refine thenC_n ?_
            refine CS.seq ?_
            refine CS.region ?_
            have ha9 := regErr_ok (of_bne_false ‹(regErr ax ay aw ah != 0) = false›)
            have hb9 := regErr_ok (of_bne_false ‹(regErr bx bz bw bh != 0) = false›)
            first | (refine RS.q rfl (QO.loadB ty23 (by rfl) (by repeat (first | exact List.Mem.head _ | refine List.Mem.tail _ ?_)) (by rfl)) ?_) | (refine RS.q rfl (QO.loadA ty23 (by rfl) (by repeat (first | exact List.Mem.head _ | refine List.Mem.tail _ ?_)) (by rfl) (by rfl)) ?_) | (refine RS.q rfl (QO.loadOA ty23 (by rfl) (by assumption) (by rfl)) ?_)
            first | (refine RS.q rfl (QO.loadB ty23 (by rfl) (by repeat (first | exact List.Mem.head _ | refine List.Mem.tail _ ?_)) (by rfl)) ?_) | (refine RS.q rfl (QO.loadA ty23 (by rfl) (by repeat (first | exact List.Mem.head _ | refine List.Mem.tail _ ?_)) (by rfl) (by rfl)) ?_) | (refine RS.q rfl (QO.loadOA ty23 (by rfl) (by assumption) (by rfl)) ?_)
            refine RS.call rfl (by rfl) ok42 (by rfl) (fun w ho => common_ _ _ _ _ _ _ _ _ _ (by omega) (by omega) (by omega) (by omega) (by omega) (by omega) (by omega) (by omega)) ?_
            rintro _ _ ⟨rfl, rfl⟩
            refine RS.q rfl (QO.move) ?_
            refine RS.q rfl (QO.extract (by rfl) (by rfl)) ?_
            refine RS.q rfl (QO.extract (by rfl) (by rfl)) ?_
            refine RS.alloc rfl ty23 ?_
            intro g18
            first | refine RS.storeB ty23 (by rfl) (by rfl) (by rfl) (by rfl) (by rfl) (by repeat (first | exact Upd.head | apply Upd.tail)) (by rfl) ?_ | refine RS.storeP ty23 (by rfl) (by rfl) (by rfl) (by rfl) (by rfl) (by repeat (first | exact Upd.head | apply Upd.tail)) (by rfl) ?_
            refine RS.q rfl (QO.assign) ?_
            refine RS.nil ?_
            refine thenC_n ?_
            refine CS.seq ?_
            refine CS.region ?_
            first | (refine RS.q rfl (QO.loadB ty23 (by rfl) (by repeat (first | exact List.Mem.head _ | refine List.Mem.tail _ ?_)) (by rfl)) ?_) | (refine RS.q rfl (QO.loadA ty23 (by rfl) (by repeat (first | exact List.Mem.head _ | refine List.Mem.tail _ ?_)) (by rfl) (by rfl)) ?_) | (refine RS.q rfl (QO.loadOA ty23 (by rfl) (by assumption) (by rfl)) ?_)
            first | (refine RS.q rfl (QO.loadB ty23 (by rfl) (by repeat (first | exact List.Mem.head _ | refine List.Mem.tail _ ?_)) (by rfl)) ?_) | (refine RS.q rfl (QO.loadA ty23 (by rfl) (by repeat (first | exact List.Mem.head _ | refine List.Mem.tail _ ?_)) (by rfl) (by rfl)) ?_) | (refine RS.q rfl (QO.loadOA ty23 (by rfl) (by assumption) (by rfl)) ?_)
            refine RS.call rfl (by rfl) ok43 (by rfl) (fun w ho => rcommon _ _ _ _ _ _ _ _ _ (by omega) (by omega) (by omega) (by omega) (by omega) (by omega) (by omega) (by omega)) ?_
            rintro _ _ ⟨rfl, rfl⟩
            refine RS.q rfl (QO.move) ?_
            refine RS.q rfl (QO.extract (by rfl) (by rfl)) ?_
            refine RS.q rfl (QO.extract (by rfl) (by rfl)) ?_
            refine RS.alloc rfl ty23 ?_
            intro g20
            first | refine RS.storeB ty23 (by rfl) (by rfl) (by rfl) (by rfl) (by rfl) (by repeat (first | exact Upd.head | apply Upd.tail)) (by rfl) ?_ | refine RS.storeP ty23 (by rfl) (by rfl) (by rfl) (by rfl) (by rfl) (by repeat (first | exact Upd.head | apply Upd.tail)) (by rfl) ?_
            refine RS.q rfl (QO.assign) ?_
            refine RS.nil ?_
            refine thenC_n ?_
            refine CS.seq ?_
            refine CS.draw 18 rfl (by kernel_rfl) (by kernel_rfl) ?_
            first | (refine RT.take (i := 0) rfl (by kernel_rfl) rfl (QO.loadB ty23 (by rfl) (by repeat (first | exact List.Mem.head _ | refine List.Mem.tail _ ?_)) (by rfl)) ?_) | (refine RT.take (i := 0) rfl (by kernel_rfl) rfl (QO.loadA ty23 (by rfl) (by repeat (first | exact List.Mem.head _ | refine List.Mem.tail _ ?_)) (by rfl) (by rfl)) ?_) | (refine RT.take (i := 0) rfl (by kernel_rfl) rfl (QO.loadOA ty23 (by rfl) (by assumption) (by rfl)) ?_)
            first | (refine RT.take (i := 1) rfl (by kernel_rfl) rfl (QO.loadB ty23 (by rfl) (by repeat (first | exact List.Mem.head _ | refine List.Mem.tail _ ?_)) (by rfl)) ?_) | (refine RT.take (i := 1) rfl (by kernel_rfl) rfl (QO.loadA ty23 (by rfl) (by repeat (first | exact List.Mem.head _ | refine List.Mem.tail _ ?_)) (by rfl) (by rfl)) ?_) | (refine RT.take (i := 1) rfl (by kernel_rfl) rfl (QO.loadOA ty23 (by rfl) (by assumption) (by rfl)) ?_)
            first | (refine RT.takev (i := 2) rfl (by kernel_rfl) rfl (QO.seql4 eqt23 (by rfl) (by rfl)) (congrArg Value.bool (beq_self_eq_true _)) ?_) | (refine RT.takev (i := 2) rfl (by kernel_rfl) rfl (QO.seql eqt23 (by decide) (by rfl) (by rfl) (by rfl) (by rfl)) (congrArg Value.bool (beq_self_eq_true _)) ?_)
            refine RT.take (i := 3) rfl (by kernel_rfl) rfl (QO.move) ?_
            refine RT.takeOn (i := 4) (dj := 118) rfl rfl (congrArg Value.bool rfl) (by kernel_rfl) rfl (QO.move) ?_
            refine RT.takeOn (i := 5) (dj := 118) rfl rfl (congrArg Value.bool rfl) (by kernel_rfl) rfl (QO.move) ?_
            refine RT.takeOnv (i := 6) (dj := 118) rfl rfl (congrArg Value.bool rfl) (by kernel_rfl) rfl (QO.beql Try.underlying4 (by rfl) (by rfl)) (congrArg Value.bool (beq_self_eq_true _)) ?_
            refine RT.take (i := 7) rfl (by kernel_rfl) rfl (QO.pickT (by rfl) rfl (by rfl)) ?_
            refine RT.take (i := 8) rfl (by kernel_rfl) rfl (QO.move) ?_
            first | (refine RT.takeOn (i := 9) (dj := 123) rfl rfl (congrArg Value.bool rfl) (by kernel_rfl) rfl (QO.loadB ty23 (by rfl) (by repeat (first | exact List.Mem.head _ | refine List.Mem.tail _ ?_)) (by rfl)) ?_) | (refine RT.takeOn (i := 9) (dj := 123) rfl rfl (congrArg Value.bool rfl) (by kernel_rfl) rfl (QO.loadA ty23 (by rfl) (by repeat (first | exact List.Mem.head _ | refine List.Mem.tail _ ?_)) (by rfl) (by rfl)) ?_) | (refine RT.takeOn (i := 9) (dj := 123) rfl rfl (congrArg Value.bool rfl) (by kernel_rfl) rfl (QO.loadOA ty23 (by rfl) (by assumption) (by rfl)) ?_)
            first | (refine RT.takeOn (i := 10) (dj := 123) rfl rfl (congrArg Value.bool rfl) (by kernel_rfl) rfl (QO.loadB ty23 (by rfl) (by repeat (first | exact List.Mem.head _ | refine List.Mem.tail _ ?_)) (by rfl)) ?_) | (refine RT.takeOn (i := 10) (dj := 123) rfl rfl (congrArg Value.bool rfl) (by kernel_rfl) rfl (QO.loadA ty23 (by rfl) (by repeat (first | exact List.Mem.head _ | refine List.Mem.tail _ ?_)) (by rfl) (by rfl)) ?_) | (refine RT.takeOn (i := 10) (dj := 123) rfl rfl (congrArg Value.bool rfl) (by kernel_rfl) rfl (QO.loadOA ty23 (by rfl) (by assumption) (by rfl)) ?_)
            first | (refine RT.takeOn (i := 12) (dj := 123) rfl rfl (congrArg Value.bool rfl) (by kernel_rfl) rfl (QO.loadB ty23 (by rfl) (by repeat (first | exact List.Mem.head _ | refine List.Mem.tail _ ?_)) (by rfl)) ?_) | (refine RT.takeOn (i := 12) (dj := 123) rfl rfl (congrArg Value.bool rfl) (by kernel_rfl) rfl (QO.loadA ty23 (by rfl) (by repeat (first | exact List.Mem.head _ | refine List.Mem.tail _ ?_)) (by rfl) (by rfl)) ?_) | (refine RT.takeOn (i := 12) (dj := 123) rfl rfl (congrArg Value.bool rfl) (by kernel_rfl) rfl (QO.loadOA ty23 (by rfl) (by assumption) (by rfl)) ?_)
            first | (refine RT.takeOn (i := 13) (dj := 123) rfl rfl (congrArg Value.bool rfl) (by kernel_rfl) rfl (QO.loadB ty23 (by rfl) (by repeat (first | exact List.Mem.head _ | refine List.Mem.tail _ ?_)) (by rfl)) ?_) | (refine RT.takeOn (i := 13) (dj := 123) rfl rfl (congrArg Value.bool rfl) (by kernel_rfl) rfl (QO.loadA ty23 (by rfl) (by repeat (first | exact List.Mem.head _ | refine List.Mem.tail _ ?_)) (by rfl) (by rfl)) ?_) | (refine RT.takeOn (i := 13) (dj := 123) rfl rfl (congrArg Value.bool rfl) (by kernel_rfl) rfl (QO.loadOA ty23 (by rfl) (by assumption) (by rfl)) ?_)
            refine RT.one (i := 11) (by kernel_rfl) rfl rfl ?_
            refine RS.on (dj := 123) rfl (congrArg Value.bool rfl) ?_
            refine RS.call rfl (by rfl) ok44 (by rfl) (fun w ho => inside _ _ _ _ _ _ _ _ _ (by omega) (by omega) (by omega) (by omega) (by omega) (by omega) (by omega) (by omega)) ?_
            rintro _ _ ⟨rfl, rfl⟩
            refine RS.nil ⟨(by repeat (first | exact List.Sublist.refl _ | exact List.nil_sublist _ | refine List.Sublist.cons_cons _ ?_ | refine List.Sublist.cons _ ?_ | exact Sbp.refl | exact Sbp.nil | refine Sbp.cons (by repeat (first | exact Rem.head | apply Rem.tail)) ?_ | exact Sbp.app | refine Sbp.skip ?_)), ?_⟩
            refine RT.one (i := 14) (by kernel_rfl) rfl rfl ?_
            refine RS.on (dj := 123) rfl (congrArg Value.bool rfl) ?_
            refine RS.call rfl (by rfl) ok25 (by rfl) (fun w ho => rinside _ _ _ _ _ _ _ _ _ (by omega) (by omega) (by omega) (by omega) (by omega) (by omega)) ?_
            rintro _ _ ⟨rfl, rfl⟩
            refine RS.nil ⟨(by repeat (first | exact List.Sublist.refl _ | exact List.nil_sublist _ | refine List.Sublist.cons_cons _ ?_ | refine List.Sublist.cons _ ?_ | exact Sbp.refl | exact Sbp.nil | refine Sbp.cons (by repeat (first | exact Rem.head | apply Rem.tail)) ?_ | exact Sbp.app | refine Sbp.skip ?_)), ?_⟩
            refine RT.takeOnv (i := 15) (dj := 123) rfl rfl (congrArg Value.bool rfl) (by kernel_rfl) rfl (QO.beql Try.underlying4 (by rfl) (by rfl)) (congrArg Value.bool (beq_self_eq_true _)) ?_
            refine RT.take (i := 16) rfl (by kernel_rfl) rfl (QO.pickT (by rfl) rfl (by rfl)) ?_
            refine RT.take (i := 17) rfl (by kernel_rfl) rfl (QO.assign) ?_
            refine RT.done (by kernel_rfl) ?_
            refine thenC_n ?_
            refine CS.ret ?_
            refine retQ.mk (H' := []) (.inr rfl) (RVs.tmp (by rfl) RVs.nil) (List.nil_sublist _) ?_
            exact ⟨rfl, rfl⟩

end Go.Proofs.Ytplfeaikjgfhcaa
