/-
  Contracts: frames from planes, frames compared, PlanesMatch. Conditions: as each theorem says.
-/
import Derived.Test.YtapcgokcfmklbaaDoorC3
namespace Go.Proofs.YtapcgokcfmklbaaDoor
open Go Go.Proofs Go.RowKit

theorem eqt31 : intsT Tryd.prog 31 = 4 := by kernel_rfl
theorem ok71 : callOK Tryd.prog 71 = true := by kernel_rfl

/-- Planes that come in: four slices. -/
abbrev plsv (A : Nat → Option Addr) (n c : Nat → Nat) : List Value := [.slice (A 0) (n 0) (c 0), .slice (A 1) (n 1) (c 1), .slice (A 2) (n 2) (c 2), .slice (A 3) (n 3) (c 3)]
theorem plsv_at (A : Nat → Option Addr) (n c : Nat → Nat) (k : Nat) (h : k < 4) : (plsv A n c)[k]? = some (.slice (A k) (n k) (c k)) := idx4 (fun k => Value.slice (A k) (n k) (c k)) k h
theorem plsv_ati (A : Nat → Option Addr) (n c : Nat → Nat) (k : Nat) (h : k < 4) : (plsv A n c)[((k : Nat) : Int).toNat]? = some (.slice (A k) (n k) (c k)) := by rw [Int.toNat_natCast]; exact plsv_at A n c k h

/-- what FromPlanes finds -/
def fpErr (x y wi he : Int) (n : Nat → Nat) : Int := if regErr x y wi he ≠ 0 then regErr x y wi he else if (List.range 4).all (fun k => decide ((n k : Int) = wi * he)) = true then 0 else 2
theorem fpErr_reg {x y wi he : Int} {n : Nat → Nat} (h : regErr x y wi he ≠ 0) : fpErr x y wi he n = regErr x y wi he := if_pos h
theorem fpErr_bad {x y wi he : Int} {n : Nat → Nat} {k : Nat} (h : regErr x y wi he = 0) (hk : k < 4) (hn : (n k : Int) ≠ wi * he) : fpErr x y wi he n = 2 := by
  unfold fpErr
  rw [if_neg (by simpa using h), if_neg (fun h1 => hn (by simpa using List.all_eq_true.1 h1 k (List.mem_range.2 hk)))]
theorem fpErr_ok {x y wi he : Int} {n : Nat → Nat} (h : regErr x y wi he = 0) (hn : ∀ k, k < 4 → (n k : Int) = wi * he) : fpErr x y wi he n = 0 := by
  unfold fpErr
  rw [if_neg (by simpa using h), if_pos (List.all_eq_true.2 fun k hk => by simpa using hn k (List.mem_range.1 hk))]
/-- the numbers of a frame of planes -/
def fpV (xs : Nat → List Nat) (N : Nat) : List Nat := (List.range N).map fun i => cl ((xs (i % 4)).getD (i / 4) 0)
def FPR (x y wi he : Int) (n : Nat → Nat) (xs : Nat → List Nat) (v : Value) (H : HL) : Prop :=
  (fpErr x y wi he n ≠ 0 ∧ v = .tuple #[.agg #[iv 0, iv 0, iv 0, iv 0, .slice none 0 0], iv (fpErr x y wi he n)] ∧ H = []) ∨
  (fpErr x y wi he n = 0 ∧ ∃ (g N : Nat), (N : Int) = 4 * wi * he ∧ v = .tuple #[.agg #[iv x, iv y, iv wi, iv he, .slice (some ⟨g, 0, none⟩) N N], iv 0] ∧ H = [⟨g, 36, (fpV xs N).map flt⟩])

theorem take_more {xs ys : List Nat} {k : Nat} (h : xs.take k = ys.take k) (h1 : k < xs.length) (h2 : k < ys.length) (he : ((xs[k] : Nat) : Int) = (ys[k] : Nat)) : xs.take (k + 1) = ys.take (k + 1) := by
  rw [List.take_add_one, List.take_add_one, h, List.getElem?_eq_getElem h1, List.getElem?_eq_getElem h2, Int.ofNat.inj he]
theorem take_whole {xs ys : List Nat} {k : Nat} (h : xs.take k = ys.take k) (h1 : xs.length = k) (h2 : ys.length = k) : xs = ys := by
  rw [List.take_of_length_le (by omega), List.take_of_length_le (by omega)] at h
  exact h

set_option maxRecDepth 100000 in
theorem sameFrame (x y wi he x' y' wi' he' : Int) (A A' : Option Addr) (n n' c c' : Nat) (xs xs' : List Nat) (W : World) (hn : xs.length = n) (hn' : xs'.length = n') (hA : FS W A xs) (hA' : FS W A' xs') (hm : n ≤ maxLen) : Fn_ Tryd.prog 22 #[.agg #[iv x, iv y, iv wi, iv he, .slice A n c], .agg #[iv x', iv y', iv wi', iv he', .slice A' n' c']] W (fun v H => v = .bool (decide ([x, y, wi, he] = [x', y', wi', he'] ∧ xs = xs')) ∧ H = []) := by
  unfold maxLen at hm
  refine Fn_.intro Tryd.func22 rfl rfl (by rfl) ?_
  refine CS.seq ?_
  refine CS.region ?_
  refine RS.box rfl (by rfl) (by rfl) ?_
  intro g2
  refine RS.box rfl (by rfl) (by rfl) ?_
  intro g3
  refine RS.q rfl (QO.assign) ?_
  refine RS.nil ?_
  refine thenC_n ?_
  refine CS.seq ?_
  refine CS.seq ?_
  refine CS.region ?_
  refine RS.q rfl (QO.fieldAddr fo34_0 (by rfl)) ?_
  first | (refine RS.q rfl (QO.loadB ty31 (by rfl) (by repeat (first | exact List.Mem.head _ | refine List.Mem.tail _ ?_)) (by rfl)) ?_) | (refine RS.q rfl (QO.loadA ty31 (by rfl) (by repeat (first | exact List.Mem.head _ | refine List.Mem.tail _ ?_)) (by rfl) (by rfl)) ?_) | (refine RS.q rfl (QO.loadOA ty31 (by rfl) (by assumption) (by rfl)) ?_)
  refine RS.q rfl (QO.fieldAddr fo34_0 (by rfl)) ?_
  first | (refine RS.q rfl (QO.loadB ty31 (by rfl) (by repeat (first | exact List.Mem.head _ | refine List.Mem.tail _ ?_)) (by rfl)) ?_) | (refine RS.q rfl (QO.loadA ty31 (by rfl) (by repeat (first | exact List.Mem.head _ | refine List.Mem.tail _ ?_)) (by rfl) (by rfl)) ?_) | (refine RS.q rfl (QO.loadOA ty31 (by rfl) (by assumption) (by rfl)) ?_)
  first | (refine RS.q rfl (QO.sneq4 eqt31 (by rfl) (by rfl)) ?_) | (refine RS.q rfl (QO.sneq eqt31 (by decide) (by rfl) (by rfl) (by rfl) (by rfl)) ?_)
  refine RS.q rfl (QO.move) ?_
  refine RS.split (dj := 11) (by rfl) (fun hb0 => ?_) (fun hb0 => ?_)
  · have hb0p := bne_iff_ne.1 hb0
    refine RS.off (dj := 11) rfl (.inl (congrArg Value.bool hb0)) (fun _ => rfl) rfl ?_
    refine RS.off (dj := 11) rfl (.inl (congrArg Value.bool hb0)) (fun _ => rfl) rfl ?_
    refine RS.off (dj := 11) rfl (.inl (congrArg Value.bool hb0)) (fun _ => rfl) rfl ?_
    refine RS.off (dj := 11) rfl (.inl (congrArg Value.bool hb0)) (fun _ => rfl) rfl ?_
    refine RS.off (dj := 11) rfl (.inl (congrArg Value.bool hb0)) (fun _ => rfl) rfl ?_
    refine RS.off (dj := 11) rfl (.inl (congrArg Value.bool hb0)) (fun _ => rfl) rfl ?_
    refine RS.off (dj := 11) rfl (.inl (congrArg Value.bool hb0)) (fun _ => rfl) rfl ?_
    refine RS.q rfl (QO.pickT (by rfl) hb0 (by rfl)) ?_
    refine RS.nil ?_
    refine thenC_n ?_
    refine CS.condT (by rfl) rfl ?_
    refine CS.seq ?_
    refine CS.region ?_
    refine RS.q rfl (QO.assign) ?_
    refine RS.nil ?_
    refine thenC_n ?_
    refine CS.ret ?_
    refine thenC_r ?_
    refine retQ.mk (H' := []) (.inr rfl) (RVs.tmp (by rfl) RVs.nil) (List.nil_sublist _) ?_
    exact ⟨congrArg Value.bool (decide_eq_false fun h => hb0p h.1).symm, rfl⟩
  · have hb0p := of_bne_false hb0
    refine RS.on (dj := 11) rfl (congrArg Value.bool hb0) ?_
    refine RS.q rfl (QO.fieldAddr fo34_1 (by rfl)) ?_
    refine RS.on (dj := 11) rfl (congrArg Value.bool hb0) ?_
    first | (refine RS.q rfl (QO.load ty32 (by rfl) (by repeat (first | exact List.Mem.head _ | refine List.Mem.tail _ ?_)) (by rfl)) ?_) | (refine RS.q rfl (QO.loadO ty32 (by rfl) (by assumption)) ?_) | (refine RS.q rfl (QO.load ty32 (by rfl) (by repeat (first | exact List.Mem.head _ | refine List.Mem.tail _ ?_)) (by assumption)) ?_)
    refine RS.on (dj := 11) rfl (congrArg Value.bool hb0) ?_
    refine RS.q rfl (QO.lenS Tryd.underlying32 (by rfl)) ?_
    refine RS.on (dj := 11) rfl (congrArg Value.bool hb0) ?_
    refine RS.q rfl (QO.fieldAddr fo34_1 (by rfl)) ?_
    refine RS.on (dj := 11) rfl (congrArg Value.bool hb0) ?_
    first | (refine RS.q rfl (QO.load ty32 (by rfl) (by repeat (first | exact List.Mem.head _ | refine List.Mem.tail _ ?_)) (by rfl)) ?_) | (refine RS.q rfl (QO.loadO ty32 (by rfl) (by assumption)) ?_) | (refine RS.q rfl (QO.load ty32 (by rfl) (by repeat (first | exact List.Mem.head _ | refine List.Mem.tail _ ?_)) (by assumption)) ?_)
    refine RS.on (dj := 11) rfl (congrArg Value.bool hb0) ?_
    refine RS.q rfl (QO.lenS Tryd.underlying32 (by rfl)) ?_
    refine RS.on (dj := 11) rfl (congrArg Value.bool hb0) ?_
    refine RS.q rfl (QO.neq (by rfl) (by rfl)) ?_
    refine RS.q rfl (QO.pickF (by rfl) hb0 (by rfl)) ?_
    refine RS.nil ?_
    refine thenC_n ?_
    refine CS.cond (by rfl) (fun hb1 => ?_) (fun hb1 => ?_)
    · have hb1p := bne_iff_ne.1 hb1
      refine CS.seq ?_
      refine CS.region ?_
      refine RS.q rfl (QO.assign) ?_
      refine RS.nil ?_
      refine thenC_n ?_
      refine CS.ret ?_
      refine thenC_r ?_
      refine retQ.mk (H' := []) (.inr rfl) (RVs.tmp (by rfl) RVs.nil) (List.nil_sublist _) ?_
      exact ⟨congrArg Value.bool (decide_eq_false fun h => by have h9 := h.2; subst h9; omega).symm, rfl⟩
    · have hb1p := of_bne_false hb1
      refine CS.skip ?_
      refine thenC_n ?_
      refine CS.seq ?_
      refine CS.seq ?_
      refine CS.region ?_
      refine RS.q rfl (QO.fieldAddr fo34_1 (by rfl)) ?_
      first | (refine RS.q rfl (QO.load ty32 (by rfl) (by repeat (first | exact List.Mem.head _ | refine List.Mem.tail _ ?_)) (by rfl)) ?_) | (refine RS.q rfl (QO.loadO ty32 (by rfl) (by assumption)) ?_) | (refine RS.q rfl (QO.load ty32 (by rfl) (by repeat (first | exact List.Mem.head _ | refine List.Mem.tail _ ?_)) (by assumption)) ?_)
      refine RS.q rfl (QO.lenS Tryd.underlying32 (by rfl)) ?_
      refine RS.q rfl (QO.move) ?_
      refine RS.nil ?_
      refine thenC_n ?_
      refine CS.block ?_
      have hll : n = n' := by have := of_bne_false hb1; omega
      refine CS.loop (X := Nat) (4 :: 5 :: 23 :: 24 :: 25 :: 26 :: 27 :: 28 :: 29 :: 30 :: 31 :: 32 :: 33 :: 34 :: 35 :: 36 :: 37 :: 38 :: 39 :: []) (fun k => [(23, iv (k : Int))]) (fun k => [⟨g3, 34, [iv x', iv y', iv wi', iv he', .slice A' n' c']⟩, ⟨g2, 34, [iv x, iv y, iv wi, iv he, .slice A n c]⟩]) (fun k => k ≤ n ∧ xs.take k = xs'.take k) (fun k => n - k) 0 ⟨Nat.zero_le _, rfl⟩ ?_ ?_ ?_
      · exact (by repeat (first | exact kn_nil | refine kn_cons (by rfl) ?_))
      · exact (by repeat (first | exact List.Sublist.refl _ | exact List.nil_sublist _ | refine List.Sublist.cons_cons _ ?_ | refine List.Sublist.cons _ ?_ | exact Sbp.refl | exact Sbp.nil | refine Sbp.cons (by repeat (first | exact Rem.head | apply Rem.tail)) ?_ | exact Sbp.app | refine Sbp.skip ?_))
      · intro k gj4 hz
        obtain ⟨hk, hz⟩ := hz
        refine CS.seq ?_
        refine CS.region ?_
        refine RS.q rfl (QO.lss (by rfl) (by rfl)) ?_
        refine RS.nil ?_
        refine thenC_n ?_
        refine CS.seq ?_
        refine CS.cond (by rfl) (fun hb2 => ?_) (fun hb2 => ?_)
        · have hb2p := of_decide_eq_true hb2
          refine CS.skip ?_
          refine thenC_n ?_
          refine CS.seq ?_
          refine CS.block ?_
          refine CS.seq ?_
          refine CS.region ?_
          refine RS.q rfl (QO.move) ?_
          refine RS.q rfl (QO.assign) ?_
          refine RS.nil ?_
          refine thenC_n ?_
          refine CS.seq ?_
          refine CS.draw 13 rfl (by kernel_rfl) (by kernel_rfl) ?_
          refine RT.take (i := 0) rfl (by kernel_rfl) rfl (QO.fieldAddr fo34_1 (by rfl)) ?_
          first | (refine RT.take (i := 1) rfl (by kernel_rfl) rfl (QO.load ty32 (by rfl) (by repeat (first | exact List.Mem.head _ | refine List.Mem.tail _ ?_)) (by rfl)) ?_) | (refine RT.take (i := 1) rfl (by kernel_rfl) rfl (QO.loadO ty32 (by rfl) (by assumption)) ?_) | (refine RT.take (i := 1) rfl (by kernel_rfl) rfl (QO.load ty32 (by rfl) (by repeat (first | exact List.Mem.head _ | refine List.Mem.tail _ ?_)) (by assumption)) ?_)
          refine RT.take (i := 2) rfl (by kernel_rfl) rfl (QO.move) ?_
          have hlt : k < xs.length := by omega
          have hlt' : k < xs'.length := by omega
          obtain ⟨bA, oA, rfl, hcell⟩ := hA (by omega)
          obtain ⟨bA', oA', rfl, hcell'⟩ := hA' (by omega)
          first | (refine RT.take (i := 3) rfl (by kernel_rfl) rfl (QO.idx0 Tryd.underlying32 ty36 (by rfl) (by rfl) (by rfl) (by omega)) ?_) | (refine RT.take (i := 3) rfl (by kernel_rfl) rfl (QO.idxn Tryd.underlying32 ty36 (by rfl) (by rfl) (by rfl) (by omega)) ?_) | (refine RT.take (i := 3) rfl (by kernel_rfl) rfl (QO.idx1 Tryd.underlying32 ty36 (by rfl) (by rfl) (by omega) (by omega)) ?_)
          refine RT.take (i := 4) rfl (by kernel_rfl) rfl (QO.loadO ty36 (by rfl) (hcell _ _ (List.getElem?_eq_getElem hlt))) ?_
          refine RT.take (i := 5) rfl (by kernel_rfl) rfl (QO.ext (by rfl) (ext70 _)) ?_
          refine RT.take (i := 6) rfl (by kernel_rfl) rfl (QO.fieldAddr fo34_1 (by rfl)) ?_
          first | (refine RT.take (i := 7) rfl (by kernel_rfl) rfl (QO.load ty32 (by rfl) (by repeat (first | exact List.Mem.head _ | refine List.Mem.tail _ ?_)) (by rfl)) ?_) | (refine RT.take (i := 7) rfl (by kernel_rfl) rfl (QO.loadO ty32 (by rfl) (by assumption)) ?_) | (refine RT.take (i := 7) rfl (by kernel_rfl) rfl (QO.load ty32 (by rfl) (by repeat (first | exact List.Mem.head _ | refine List.Mem.tail _ ?_)) (by assumption)) ?_)
          refine RT.take (i := 8) rfl (by kernel_rfl) rfl (QO.move) ?_
          first | (refine RT.take (i := 9) rfl (by kernel_rfl) rfl (QO.idx0 Tryd.underlying32 ty36 (by rfl) (by rfl) (by rfl) (by omega)) ?_) | (refine RT.take (i := 9) rfl (by kernel_rfl) rfl (QO.idxn Tryd.underlying32 ty36 (by rfl) (by rfl) (by rfl) (by omega)) ?_) | (refine RT.take (i := 9) rfl (by kernel_rfl) rfl (QO.idx1 Tryd.underlying32 ty36 (by rfl) (by rfl) (by omega) (by omega)) ?_)
          refine RT.take (i := 10) rfl (by kernel_rfl) rfl (QO.loadO ty36 (by rfl) (hcell' _ _ (List.getElem?_eq_getElem hlt'))) ?_
          refine RT.take (i := 11) rfl (by kernel_rfl) rfl (QO.ext (by rfl) (ext70 _)) ?_
          refine RT.take (i := 12) rfl (by kernel_rfl) rfl (QO.neq (by rfl) (by rfl)) ?_
          refine RT.done (by kernel_rfl) ?_
          refine thenC_n ?_
          refine CS.cond (by rfl) (fun hb3 => ?_) (fun hb3 => ?_)
          · have hb3p := bne_iff_ne.1 hb3
            refine CS.seq ?_
            refine CS.region ?_
            refine RS.q rfl (QO.assign) ?_
            refine RS.nil ?_
            refine thenC_n ?_
            refine CS.ret ?_
            refine blockC_r ?_
            refine thenC_r ?_
            refine loopQ_r ?_
            refine blockC_r ?_
            refine thenC_r ?_
            refine retQ.mk (H' := []) (.inr rfl) (RVs.tmp (by rfl) RVs.nil) (List.nil_sublist _) ?_
            exact ⟨congrArg Value.bool (decide_eq_false fun h => by have h9 := h.2; subst h9; exact hb3p rfl).symm, rfl⟩
          · have hb3p := of_bne_false hb3
            refine CS.skip ?_
            refine blockC_n ?_
            refine thenC_n ?_
            refine CS.region ?_
            first | (refine RS.q rfl (QO.add (by rfl) (by rfl) (by omega) (by omega)) ?_) | (refine RS.q rfl (QO.ibin (by rfl) (by rfl) trivial) ?_)
            refine RS.q rfl (QO.move) ?_
            refine RS.nil ?_
            refine loopQ_n (by intro t ht; repeat (first | with_reducible exact rfl | exact frame_puts ht (frame_mix ht) _ rfl | (refine frame_put rfl ht ?_) | (refine frame_puts ht ?_ _ rfl) | exact frame_mix ht | (refine frame_mix2 rfl ht ?_) | exact rfl)) ?_
            exact ⟨k + 1, ⟨by omega, take_more hz hlt hlt' (of_bne_false hb3)⟩, by omega, (by repeat (first | exact kn_nil | refine kn_cons (by rfl) ?_)), (by repeat (first | exact List.Sublist.refl _ | exact List.nil_sublist _ | refine List.Sublist.cons_cons _ ?_ | refine List.Sublist.cons _ ?_ | exact Sbp.refl | exact Sbp.nil | refine Sbp.cons (by repeat (first | exact Rem.head | apply Rem.tail)) ?_ | exact Sbp.app | refine Sbp.skip ?_))⟩
        · have hb2p := of_decide_eq_false hb2
          refine CS.exit ?_
          refine thenC_x ?_
          refine loopQ_x ?_
          refine blockC_x ?_
          refine thenC_n ?_
          refine CS.seq ?_
          refine CS.region ?_
          refine RS.q rfl (QO.assign) ?_
          refine RS.nil ?_
          refine thenC_n ?_
          refine CS.ret ?_
          refine retQ.mk (H' := []) (.inr rfl) (RVs.tmp (by rfl) RVs.nil) (List.nil_sublist _) ?_
          have hkn : k = n := by omega
          exact ⟨congrArg Value.bool (decide_eq_true ⟨of_bne_false hb0, take_whole hz (by omega) (by omega)⟩).symm, rfl⟩

end Go.Proofs.YtapcgokcfmklbaaDoor
