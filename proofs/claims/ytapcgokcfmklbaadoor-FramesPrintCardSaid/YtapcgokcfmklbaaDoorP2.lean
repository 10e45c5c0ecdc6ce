/-
  Contracts: heads, rows, lines read. Conditions: as each theorem says.
-/
import Derived.Test.YtapcgokcfmklbaaDoorP1
import Derived.Test.YtapcgokcfmklbaaDoorLin2
import Derived.Test.YtapcgokcfmklbaaDoorC2
import Derived.Test.YtapcgokcfmklbaaDoorMut
namespace Go.Proofs.YtapcgokcfmklbaaDoor
open Go Go.Proofs Go.RowKit

theorem ty9 : tyChk Tryd.prog 9 = some ([.string ByteArray.empty], false, 16) := by kernel_rfl
theorem ty198 : tyChk Tryd.prog 198 = some ([.pointer none], false, 8) := by kernel_rfl
theorem ok116 : callOK Tryd.prog 116 = true := by kernel_rfl
theorem ok120 : callOK Tryd.prog 120 = true := by kernel_rfl
theorem ok148 : callOK Tryd.prog 148 = true := by kernel_rfl
theorem ok149 : callOK Tryd.prog 149 = true := by kernel_rfl

theorem splitW (l : List UInt8) (m : Int) (W : World) (hm : W.cell? ⟨1, 0, none⟩ = some (.int .i64 m)) (hl : l.length < 4294967281) :
    Fn_ Tryd.prog 120 #[sv l, sv [32]] W (fun v H => ∃ g, v = .slice (some ⟨g, 0, none⟩) (wds l).length (wds l).length ∧ H = [⟨g, 9, (wds l).map sv⟩]) := splitC l [32] m W hm hl (by simp)
theorem splitP (l : List UInt8) (m : Int) (W : World) (hm : W.cell? ⟨1, 0, none⟩ = some (.int .i64 m)) (hl : l.length < 4294967281) :
    Fn_ Tryd.prog 120 #[sv l, sv (32 :: 124 :: 32 :: [])] W (fun v H => ∃ g, v = .slice (some ⟨g, 0, none⟩) (pxs l).length (pxs l).length ∧ H = [⟨g, 9, (pxs l).map sv⟩]) := splitC l _ m W hm hl (by simp)
theorem sbp_suf : ∀ (H K : HL), Sbp K (H ++ K)
  | [], _ => .refl
  | _ :: H, K => .skip (sbp_suf H K)
theorem suf_of {Hr : HL} : ∀ L : HL, Suf Hr (L ++ Hr) L
  | [] => .base
  | _ :: L => .cons (suf_of L)
theorem hd_v {f : Nat → Int} {b : Bool} {l : List UInt8} (h : hdB l = b) : Value.tuple #[.agg #[iv (f 0), iv (f 1), iv (f 2), iv (f 3)], .bool b] = .tuple #[.agg #[iv (f 0), iv (f 1), iv (f 2), iv (f 3)], .bool (hdB l)] := by rw [h]
theorem rw_v {A : Option Addr} {n c : Nat} {e w : Int} {l : List UInt8} (h : rowE l w = e) : Value.tuple #[.slice A n c, iv e] = .tuple #[.slice A n c, iv (rowE l w)] := by rw [h]
theorem row_end {l : List UInt8} {w : Int} {i : Nat} {v : Value} {Hr : HL} (hi : (pxs l).length ≤ i) (hw : ((pxs l).length : Int) = w) (hbad : ((pxs l).take i).any badP = false)
    (hrow : Row 36 1 v (((pxs l).take i).flatMap valP).length ((((pxs l).take i).flatMap valP).map flt) Hr) :
    ∃ (A : Option Addr) (n c : Nat), Value.tuple #[v, iv (wst (((pxs l).take i).any frmP))] = .tuple #[.slice A n c, iv (rowE l w)] ∧ (rowE l w = 0 → ∃ g junk, A = some ⟨g, 0, none⟩ ∧ n = (rowV l).length ∧ 0 < n ∧ n ≤ c ∧ c ≤ maxLen ∧ (⟨g, 36, (rowV l).map flt ++ junk⟩ : B) ∈ Hr) := by
  have hta : (pxs l).take i = pxs l := List.take_of_length_le hi
  rw [hta] at hbad hrow ⊢
  have h0 : rowE l w = wst ((pxs l).any frmP) := rowE_ok hw hbad
  have hpos : 0 < (pxs l).length := pcs_ne (by simp)
  have hlen : ((pxs l).flatMap valP).length = 4 * (pxs l).length := flat_len hbad
  have hx := hrow.some (by omega)
  obtain ⟨gq, cq, jq, rfl, rfl, hc1, hc2, _⟩ := hx
  exact ⟨some ⟨gq, 0, none⟩, ((pxs l).flatMap valP).length, cq, by rw [h0], fun _ => ⟨gq, jq, rfl, rfl, by rw [hlen]; omega, hc1, hc2, List.Mem.head _⟩⟩
theorem wd_len {l : List UInt8} {k : Nat} (h : k < (wds l).length) : (wd l k).length ≤ l.length := pcs_each (by simp) (getD_mem h)

set_option maxHeartbeats 4000000 in
set_option maxRecDepth 100000 in
theorem head (l : List UInt8) (W : World) (hl : l.length ≤ 1048576) (m : Int) (hm : W.cell? ⟨1, 0, none⟩ = some (.int .i64 m)) (te3 : TypeId) (pe3 : Value) (te4 : TypeId) (pe4 : Value) (ht : Lib.TabIs Tryd.prog W "internal/strconv.uint64pow10" .u64 Lib.pow10Tab) (h3 : W.cell? ⟨3, 0, none⟩ = some (.iface te3 pe3)) (h4 : W.cell? ⟨4, 0, none⟩ = some (.iface te4 pe4)) : Fn_ Tryd.prog 117 #[sv l] W (fun v H => ∃ f : Nat → Int, v = .tuple #[.agg #[iv (f 0), iv (f 1), iv (f 2), iv (f 3)], .bool (hdB l)] ∧ (hdB l = true → ∀ k, k < 4 → f k = hdV l k) ∧ H = []) := by
  refine Fn_.intro Tryd.func117 rfl rfl (by rfl) ?_
  refine CS.seq ?_
  refine CS.region ?_
  refine RS.alloc rfl ty31 ?_
  intro g2
  refine RS.q rfl (QO.assign) ?_
  refine RS.nil ?_
  refine thenC_n ?_
  refine CS.seq ?_
  refine CS.region ?_
  refine RS.q rfl (QO.move) ?_
  refine RS.call rfl (by rfl) ok120 (by rfl) (fun w ho => splitW l m _ (ho.old hm) (by omega)) ?_
  rintro _ _ ⟨g8, rfl, rfl⟩
  refine RS.q rfl (QO.assign) ?_
  refine RS.nil ?_
  refine thenC_n ?_
  refine CS.seq ?_
  refine CS.seq ?_
  refine CS.region ?_
  refine RS.q rfl (QO.move) ?_
  refine RS.q rfl (QO.lenS Tryd.underlying152 (by rfl)) ?_
  refine RS.q rfl (QO.neq (by rfl) (by rfl)) ?_
  refine RS.q rfl (QO.move) ?_
  refine RS.split (dj := 12) (by rfl) (fun hb0 => ?_) (fun hb0 => ?_)
  · have hb0p := bne_iff_ne.1 hb0
    refine RS.off (dj := 12) rfl (.inl (congrArg Value.bool hb0)) (fun _ => rfl) rfl ?_
    refine RS.off (dj := 12) rfl (.inl (congrArg Value.bool hb0)) (fun _ => rfl) rfl ?_
    refine RS.off (dj := 12) rfl (.inl (congrArg Value.bool hb0)) (fun _ => rfl) rfl ?_
    refine RS.off (dj := 12) rfl (.inl (congrArg Value.bool hb0)) (fun _ => rfl) rfl ?_
    refine RS.q rfl (QO.pickT (by rfl) hb0 (by rfl)) ?_
    refine RS.nil ?_
    refine thenC_n ?_
    refine CS.condT (by rfl) rfl ?_
    refine CS.seq ?_
    refine CS.region ?_
    first | (refine RS.q rfl (QO.loadB ty31 (by rfl) (by repeat (first | exact List.Mem.head _ | refine List.Mem.tail _ ?_)) (by rfl)) ?_) | (refine RS.q rfl (QO.loadA ty31 (by rfl) (by repeat (first | exact List.Mem.head _ | refine List.Mem.tail _ ?_)) (by rfl) (by rfl)) ?_) | (refine RS.q rfl (QO.loadOA ty31 (by rfl) (by assumption) (by rfl)) ?_)
    first | refine RS.storeB ty31 (by rfl) (by rfl) (by rfl) (by rfl) (by rfl) (by repeat (first | exact Upd.head | apply Upd.tail)) (by rfl) ?_ | refine RS.storeP ty31 (by rfl) (by rfl) (by rfl) (by rfl) (by rfl) (by repeat (first | exact Upd.head | apply Upd.tail)) (by rfl) ?_
    refine RS.q rfl (QO.assign) ?_
    refine RS.nil ?_
    refine thenC_n ?_
    refine CS.ret ?_
    refine thenC_r ?_
    refine retQ.mk (H' := []) (.inr rfl) (RVs.cellA ty31 (by rfl) (by repeat (first | exact List.Mem.head _ | refine List.Mem.tail _ ?_)) (by rfl) (RVs.tmp (by rfl) RVs.nil)) (List.nil_sublist _) ?_
    exact ⟨fun _ => 0, hd_v (f := fun _ => 0) (hdB_len (by omega)), (fun e => by rw [hdB_len (by omega)] at e; cases e), rfl⟩
  · have hb0p := of_bne_false hb0
    refine RS.on (dj := 12) rfl (congrArg Value.bool hb0) ?_
    refine RS.q rfl (QO.move) ?_
    refine RS.on (dj := 12) rfl (congrArg Value.bool hb0) ?_
    first | (refine RS.q rfl (QO.idx0 Tryd.underlying152 ty9 (by rfl) (by rfl) (by rfl) (by omega)) ?_) | (refine RS.q rfl (QO.idxn Tryd.underlying152 ty9 (by rfl) (by rfl) (by rfl) (by omega)) ?_) | (refine RS.q rfl (QO.idx1 Tryd.underlying152 ty9 (by rfl) (by rfl) (by omega) (by omega)) ?_)
    refine RS.on (dj := 12) rfl (congrArg Value.bool hb0) ?_
    refine RS.q rfl (QO.load ty9 (by rfl) (by repeat (first | exact List.Mem.head _ | refine List.Mem.tail _ ?_)) (sv_cell (show 0 < (wds l).length by omega))) ?_
    refine RS.on (dj := 12) rfl (congrArg Value.bool hb0) ?_
    refine RS.q rfl (QO.strne (by rfl) (by rfl)) ?_
    refine RS.q rfl (QO.pickF (by rfl) hb0 (by rfl)) ?_
    refine RS.nil ?_
    refine thenC_n ?_
    refine CS.cond (by rfl) (fun hb1 => ?_) (fun hb1 => ?_)
    · refine CS.seq ?_
      refine CS.region ?_
      first | (refine RS.q rfl (QO.loadB ty31 (by rfl) (by repeat (first | exact List.Mem.head _ | refine List.Mem.tail _ ?_)) (by rfl)) ?_) | (refine RS.q rfl (QO.loadA ty31 (by rfl) (by repeat (first | exact List.Mem.head _ | refine List.Mem.tail _ ?_)) (by rfl) (by rfl)) ?_) | (refine RS.q rfl (QO.loadOA ty31 (by rfl) (by assumption) (by rfl)) ?_)
      first | refine RS.storeB ty31 (by rfl) (by rfl) (by rfl) (by rfl) (by rfl) (by repeat (first | exact Upd.head | apply Upd.tail)) (by rfl) ?_ | refine RS.storeP ty31 (by rfl) (by rfl) (by rfl) (by rfl) (by rfl) (by repeat (first | exact Upd.head | apply Upd.tail)) (by rfl) ?_
      refine RS.q rfl (QO.assign) ?_
      refine RS.nil ?_
      refine thenC_n ?_
      refine CS.ret ?_
      refine thenC_r ?_
      refine retQ.mk (H' := []) (.inr rfl) (RVs.cellA ty31 (by rfl) (by repeat (first | exact List.Mem.head _ | refine List.Mem.tail _ ?_)) (by rfl) (RVs.tmp (by rfl) RVs.nil)) (List.nil_sublist _) ?_
      exact ⟨fun _ => 0, hd_v (f := fun _ => 0) (hdB_name (by first | exact bne_iff_ne.1 hb1 | exact bne_iff_ne.1 hb0)), (fun e => by rw [hdB_name (by first | exact bne_iff_ne.1 hb1 | exact bne_iff_ne.1 hb0)] at e; cases e), rfl⟩
    · refine CS.skip ?_
      refine thenC_n ?_
      refine CS.seq ?_
      refine CS.seq ?_
      refine CS.region ?_
      refine RS.q rfl (QO.fieldAddr fo31_0 (by rfl)) ?_
      refine RS.q rfl (QO.fieldAddr fo31_1 (by rfl)) ?_
      refine RS.q rfl (QO.fieldAddr fo31_2 (by rfl)) ?_
      refine RS.q rfl (QO.fieldAddr fo31_3 (by rfl)) ?_
      refine RS.buildSlice rfl Tryd.underlying199 ty198 (by decide) (by decide) (by rfl) (by rfl) ?_
      intro g23
      refine RS.q rfl (QO.lenS Tryd.underlying199 (by rfl)) ?_
      refine RS.q rfl (QO.move) ?_
      refine RS.nil ?_
      refine thenC_n ?_
      refine CS.block ?_
      refine CS.loop (X := Nat × (Nat → Int)) (3 :: 5 :: 6 :: 25 :: 26 :: 27 :: 28 :: 29 :: 30 :: 31 :: 32 :: 33 :: 34 :: 35 :: 36 :: 37 :: 38 :: 39 :: 40 :: 41 :: 42 :: 43 :: 44 :: []) (fun z => [(25, iv (z.1 : Int))]) (fun z => [⟨g23, 198, [.pointer (some ⟨g2, 0, none⟩), .pointer (some ⟨g2, 1, none⟩), .pointer (some ⟨g2, 2, none⟩), .pointer (some ⟨g2, 3, none⟩)]⟩, ⟨g8, 9, (wds l).map sv⟩, ⟨g2, 31, [iv (z.2 0), iv (z.2 1), iv (z.2 2), iv (z.2 3)]⟩]) (fun z => z.1 ≤ 4 ∧ ∀ k, k < z.1 → intB (wd l (k + 1)) = true ∧ z.2 k = hdV l k) (fun z => 4 - z.1) (0, fun _ => 0) ⟨Nat.zero_le _, fun k hk => absurd hk (Nat.not_lt_zero _)⟩ ?_ ?_ ?_
      · exact (by repeat (first | exact kn_nil | refine kn_cons (by rfl) ?_))
      · exact (by repeat (first | exact List.Sublist.refl _ | exact List.nil_sublist _ | refine List.Sublist.cons_cons _ ?_ | refine List.Sublist.cons _ ?_ | exact Sbp.refl | exact Sbp.nil | refine Sbp.cons (by repeat (first | exact Rem.head | apply Rem.tail)) ?_ | exact Sbp.app | refine Sbp.skip ?_ | exact List.sublist_append_left _ _ | exact List.sublist_append_right _ _))
      · intro z gj5 hz
        obtain ⟨i, f⟩ := z
        obtain ⟨hi, hz⟩ := hz
        replace hi : i ≤ 4 := hi
        replace hz : ∀ k, k < i → intB (wd l (k + 1)) = true ∧ f k = hdV l k := hz
        show CS _ _ _ _ _ (puts (mix _ _ _) [(25, iv (i : Int))]) ([⟨g23, 198, [.pointer (some ⟨g2, 0, none⟩), .pointer (some ⟨g2, 1, none⟩), .pointer (some ⟨g2, 2, none⟩), .pointer (some ⟨g2, 3, none⟩)]⟩, ⟨g8, 9, (wds l).map sv⟩, ⟨g2, 31, [iv (f 0), iv (f 1), iv (f 2), iv (f 3)]⟩])
        refine CS.seq ?_
        refine CS.region ?_
        refine RS.q rfl (QO.lss (by rfl) (by rfl)) ?_
        refine RS.nil ?_
        refine thenC_n ?_
        refine CS.seq ?_
        refine CS.cond (by rfl) (fun hb2 => ?_) (fun hb2 => ?_)
        · have hb2p := of_decide_eq_true hb2
          refine CS.skip ?_
          refine thenC_n ?_
          refine CS.seq ?_
          refine CS.block ?_
          refine CS.seq ?_
          refine CS.region ?_
          refine RS.q rfl (QO.move) ?_
          first | (refine RS.q rfl (QO.idx0 Tryd.underlying199 ty198 (by rfl) (by rfl) (by rfl) (by omega)) ?_) | (refine RS.q rfl (QO.idxn Tryd.underlying199 ty198 (by rfl) (by rfl) (by rfl) (by omega)) ?_) | (refine RS.q rfl (QO.idx1 Tryd.underlying199 ty198 (by rfl) (by rfl) (by omega) (by omega)) ?_)
          refine RS.q rfl (QO.load ty198 (v := .pointer (some ⟨g2, i, none⟩)) (by rfl) (by repeat (first | exact List.Mem.head _ | refine List.Mem.tail _ ?_)) (idx4 (fun k => Value.pointer (some ⟨g2, k, none⟩)) i (by omega))) ?_
          refine RS.q rfl (QO.assign) ?_
          refine RS.q rfl (QO.assign) ?_
          refine RS.nil ?_
          refine thenC_n ?_
          refine CS.seq ?_
          refine CS.region ?_
          refine RS.q rfl (QO.move) ?_
          refine RS.q rfl (QO.move) ?_
          refine RS.q rfl (QO.move) ?_
          first | (refine RS.qv rfl (QO.add (by rfl) (by rfl) (by omega) (by omega)) (congrArg iv (show (i : Int) + 1 = ((i + 1 : Nat) : Int) by omega)) ?_) | (refine RS.qv rfl (QO.ibin (by rfl) (by rfl) trivial) (congrArg iv (show (i : Int) + 1 = ((i + 1 : Nat) : Int) by omega)) ?_)
          first | (refine RS.q rfl (QO.idx0 Tryd.underlying152 ty9 (by rfl) (by rfl) (by rfl) (by omega)) ?_) | (refine RS.q rfl (QO.idxn Tryd.underlying152 ty9 (by rfl) (by rfl) (by rfl) (by omega)) ?_) | (refine RS.q rfl (QO.idx1 Tryd.underlying152 ty9 (by rfl) (by rfl) (by omega) (by omega)) ?_)
          refine RS.q rfl (QO.load ty9 (by rfl) (by repeat (first | exact List.Mem.head _ | refine List.Mem.tail _ ?_)) (sv_cell (show i + 1 < (wds l).length by omega))) ?_
          refine RS.call rfl (by rfl) ok148 (by rfl) (fun w ho => integer_ (wd l (i + 1)) te3 pe3 te4 pe4 _ (by have := wd_len (l := l) (k := i + 1) (by omega); omega) (ho.tab (g := 2) (by kernel_rfl) ht) (ho.old h3) (ho.old h4)) ?_
          rintro _ _ ⟨x37, rfl, hx37, rfl⟩
          refine RS.q rfl (QO.move) ?_
          refine RS.q rfl (QO.extract (by rfl) (by rfl)) ?_
          refine RS.q rfl (QO.extract (by rfl) (by rfl)) ?_
          refine RS.q rfl (QO.nilchk (by rfl)) ?_
          refine RS.store1e ty3 rfl (by rfl) (by rfl) (by rfl) (set4 (f := f) (i := i) (x := x37) (by omega)) (by repeat (first | exact Upd.head | apply Upd.tail)) (by first | (simp; done) | (simp; omega) | omega) ?_
          refine RS.q rfl (QO.assign) ?_
          refine RS.nil ?_
          refine thenC_n ?_
          refine CS.seq ?_
          refine CS.region ?_
          refine RS.q rfl (QO.move) ?_
          refine RS.q rfl (QO.not (by rfl)) ?_
          refine RS.nil ?_
          refine thenC_n ?_
          refine CS.cond (by rfl) (fun hb3 => ?_) (fun hb3 => ?_)
          · have hb3p := Eq.mp (Bool.not_eq_true' _) hb3
            refine CS.seq ?_
            refine CS.region ?_
            first | (refine RS.q rfl (QO.loadB ty31 (by rfl) (by repeat (first | exact List.Mem.head _ | refine List.Mem.tail _ ?_)) (by rfl)) ?_) | (refine RS.q rfl (QO.loadA ty31 (by rfl) (by repeat (first | exact List.Mem.head _ | refine List.Mem.tail _ ?_)) (by rfl) (by rfl)) ?_) | (refine RS.q rfl (QO.loadOA ty31 (by rfl) (by assumption) (by rfl)) ?_)
            first | refine RS.storeB ty31 (by rfl) (by rfl) (by rfl) (by rfl) (by rfl) (by repeat (first | exact Upd.head | apply Upd.tail)) (by rfl) ?_ | refine RS.storeP ty31 (by rfl) (by rfl) (by rfl) (by rfl) (by rfl) (by repeat (first | exact Upd.head | apply Upd.tail)) (by rfl) ?_
            refine RS.q rfl (QO.assign) ?_
            refine RS.nil ?_
            refine thenC_n ?_
            refine CS.ret ?_
            refine blockC_r ?_
            refine thenC_r ?_
            refine loopQ_r ?_
            refine blockC_r ?_
            refine thenC_r ?_
            refine retQ.mk (H' := []) (.inr rfl) (RVs.cellA ty31 (by rfl) (by repeat (first | exact List.Mem.head _ | refine List.Mem.tail _ ?_)) (by rfl) (RVs.tmp (by rfl) RVs.nil)) (List.nil_sublist _) ?_
            have hno : intB (wd l (i + 1)) = false := by have := hb3p; simpa using this
            exact ⟨updF f i x37, hd_v (hdB_int (show i < 4 by omega) hno), (fun e => by rw [hdB_int (show i < 4 by omega) hno] at e; cases e), rfl⟩
          · have hb3p := Eq.mp (Bool.not_eq_false' _) hb3
            refine CS.skip ?_
            refine blockC_n ?_
            refine thenC_n ?_
            refine CS.region ?_
            first | (refine RS.q rfl (QO.add (by rfl) (by rfl) (by omega) (by omega)) ?_) | (refine RS.q rfl (QO.ibin (by rfl) (by rfl) trivial) ?_)
            refine RS.q rfl (QO.move) ?_
            refine RS.nil ?_
            refine loopQ_n (by intro t ht; repeat (first | with_reducible exact rfl | exact frame_puts ht (frame_mix ht) _ rfl | (refine frame_put rfl ht ?_) | (refine frame_puts ht ?_ _ rfl) | exact frame_mix ht | (refine frame_mix2 rfl ht ?_) | exact rfl)) ?_
            have hok : intB (wd l (i + 1)) = true := by have := hb3p; simpa using this
            exact ⟨(i + 1, updF f i x37), ⟨by show i + 1 ≤ 4; omega, fun k hk => by
                replace hk : k < i + 1 := hk
                by_cases e : k = i
                · subst e; exact ⟨hok, updF_at.trans (hx37 hok)⟩
                · exact ⟨(hz k (by omega)).1, (updF_ne e).trans (hz k (by omega)).2⟩⟩, by show 4 - (i + 1) < 4 - i; omega, kn_cons (congrArg iv (by show (i : Int) + 1 = ((i + 1 : Nat) : Int); omega)) kn_nil, (by repeat (first | exact List.Sublist.refl _ | exact List.nil_sublist _ | refine List.Sublist.cons_cons _ ?_ | refine List.Sublist.cons _ ?_ | exact Sbp.refl | exact Sbp.nil | refine Sbp.cons (by repeat (first | exact Rem.head | apply Rem.tail)) ?_ | exact Sbp.app | refine Sbp.skip ?_ | exact List.sublist_append_left _ _ | exact List.sublist_append_right _ _))⟩
        · have hb2p := of_decide_eq_false hb2
          refine CS.exit ?_
          refine thenC_x ?_
          refine loopQ_x ?_
          refine blockC_x ?_
          refine thenC_n ?_
          refine CS.seq ?_
          refine CS.region ?_
          first | (refine RS.q rfl (QO.loadB ty31 (by rfl) (by repeat (first | exact List.Mem.head _ | refine List.Mem.tail _ ?_)) (by rfl)) ?_) | (refine RS.q rfl (QO.loadA ty31 (by rfl) (by repeat (first | exact List.Mem.head _ | refine List.Mem.tail _ ?_)) (by rfl) (by rfl)) ?_) | (refine RS.q rfl (QO.loadOA ty31 (by rfl) (by assumption) (by rfl)) ?_)
          first | refine RS.storeB ty31 (by rfl) (by rfl) (by rfl) (by rfl) (by rfl) (by repeat (first | exact Upd.head | apply Upd.tail)) (by rfl) ?_ | refine RS.storeP ty31 (by rfl) (by rfl) (by rfl) (by rfl) (by rfl) (by repeat (first | exact Upd.head | apply Upd.tail)) (by rfl) ?_
          refine RS.q rfl (QO.assign) ?_
          refine RS.nil ?_
          refine thenC_n ?_
          refine CS.ret ?_
          refine retQ.mk (H' := []) (.inr rfl) (RVs.cellA ty31 (by rfl) (by repeat (first | exact List.Mem.head _ | refine List.Mem.tail _ ?_)) (by rfl) (RVs.tmp (by rfl) RVs.nil)) (List.nil_sublist _) ?_
          obtain rfl : i = 4 := by omega
          have hok : hdB l = true := hdB_ok (by omega) (by first | exact of_bne_false hb1 | exact of_bne_false hb0) (fun k hk => (hz k hk).1)
          exact ⟨f, hd_v hok, fun _ k hk => (hz k hk).2, rfl⟩

set_option maxHeartbeats 4000000 in
set_option maxRecDepth 100000 in
theorem next (s : List UInt8) (a a2 : Int) (ha2 : a + 1 = a2) (gt ga : Nat) (HR : HL) (W : World) (hl : s.length ≤ 1048576) (ha : -1 ≤ a ∧ a ≤ 1048576) (m : Int) (hm : W.cell? ⟨1, 0, none⟩ = some (.int .i64 m)) : FnH Tryd.prog 115 #[.pointer (some ⟨gt, 0, none⟩), .pointer (some ⟨ga, 0, none⟩)] W (⟨gt, 9, [sv s]⟩ :: ⟨ga, 3, [iv a]⟩ :: HR) (fun v H => v = .tuple #[sv (cutL s [10]), .bool (cutB s [10])] ∧ H = ⟨gt, 9, [sv (cutR s [10])]⟩ :: ⟨ga, 3, [iv a2]⟩ :: HR) := by
  refine FnH.intro Tryd.func115 rfl rfl (by rfl) ?_
  refine CS.seq ?_
  refine CS.region ?_
  refine RS.q rfl (QO.assign) ?_
  refine RS.q rfl (QO.assign) ?_
  refine RS.nil ?_
  refine thenC_n ?_
  refine CS.seq ?_
  refine CS.region ?_
  first | (refine RS.q rfl (QO.load ty9 (by rfl) (by repeat (first | exact List.Mem.head _ | refine List.Mem.tail _ ?_)) (by rfl)) ?_) | (refine RS.q rfl (QO.loadO ty9 (by rfl) (by assumption)) ?_) | (refine RS.q rfl (QO.load ty9 (by rfl) (by repeat (first | exact List.Mem.head _ | refine List.Mem.tail _ ?_)) (by assumption)) ?_)
  refine RS.call rfl (by rfl) ok116 (by rfl) (fun w ho => cutC s [10] m _ (ho.old hm) (by omega)) ?_
  rintro _ _ ⟨rfl, rfl⟩
  refine RS.q rfl (QO.move) ?_
  refine RS.q rfl (QO.extract (by rfl) (by rfl)) ?_
  refine RS.q rfl (QO.extract (by rfl) (by rfl)) ?_
  refine RS.q rfl (QO.extract (by rfl) (by rfl)) ?_
  refine RS.q rfl (QO.assign) ?_
  refine RS.q rfl (QO.assign) ?_
  refine RS.q rfl (QO.assign) ?_
  refine RS.nil ?_
  refine thenC_n ?_
  refine CS.seq ?_
  refine CS.region ?_
  refine RS.q rfl (QO.move) ?_
  refine RS.store1 ty9 rfl (by rfl) (by rfl) (by rfl) (by repeat (first | exact Upd.head | apply Upd.tail)) (by first | (simp; done) | (simp; omega) | omega) ?_
  refine RS.nil ?_
  refine thenC_n ?_
  refine CS.seq ?_
  refine CS.region ?_
  first | (refine RS.q rfl (QO.load ty3 (by rfl) (by repeat (first | exact List.Mem.head _ | refine List.Mem.tail _ ?_)) (by rfl)) ?_) | (refine RS.q rfl (QO.loadO ty3 (by rfl) (by assumption)) ?_) | (refine RS.q rfl (QO.load ty3 (by rfl) (by repeat (first | exact List.Mem.head _ | refine List.Mem.tail _ ?_)) (by assumption)) ?_)
  first | (refine RS.qv rfl (QO.add (by rfl) (by rfl) (by omega) (by omega)) (congrArg iv ha2) ?_) | (refine RS.qv rfl (QO.ibin (by rfl) (by rfl) trivial) (congrArg iv ha2) ?_)
  refine RS.store1 ty3 rfl (by rfl) (by rfl) (by rfl) (by repeat (first | exact Upd.head | apply Upd.tail)) (by first | (simp; done) | (simp; omega) | omega) ?_
  refine RS.nil ?_
  refine thenC_n ?_
  refine CS.seq ?_
  refine CS.region ?_
  refine RS.q rfl (QO.move) ?_
  refine RS.q rfl (QO.move) ?_
  refine RS.q rfl (QO.assign) ?_
  refine RS.q rfl (QO.assign) ?_
  refine RS.nil ?_
  refine thenC_n ?_
  refine CS.ret ?_
  refine retQ.mk (H' := ⟨gt, 9, [sv (cutR s [10])]⟩ :: ⟨ga, 3, [iv a2]⟩ :: HR) (.inr rfl) (RVs.tmp (by rfl) (RVs.tmp (by rfl) RVs.nil)) (by repeat (first | exact List.Sublist.refl _ | exact List.nil_sublist _ | refine List.Sublist.cons_cons _ ?_ | refine List.Sublist.cons _ ?_ | exact Sbp.refl | exact Sbp.nil | refine Sbp.cons (by repeat (first | exact Rem.head | apply Rem.tail)) ?_ | exact Sbp.app | refine Sbp.skip ?_ | exact List.sublist_append_left _ _ | exact List.sublist_append_right _ _)) ?_
  exact ⟨rfl, rfl⟩

set_option maxHeartbeats 4000000 in
set_option maxRecDepth 100000 in
theorem row_ (l : List UInt8) (w : Int) (W : World) (hl : l.length ≤ 1048576) (m : Int) (hm : W.cell? ⟨1, 0, none⟩ = some (.int .i64 m)) : Fn_ Tryd.prog 118 #[sv l, iv w] W (fun v H => ∃ (A : Option Addr) (n c : Nat), v = .tuple #[.slice A n c, iv (rowE l w)] ∧ (rowE l w = 0 → ∃ g junk, A = some ⟨g, 0, none⟩ ∧ n = (rowV l).length ∧ 0 < n ∧ n ≤ c ∧ c ≤ maxLen ∧ (⟨g, 36, (rowV l).map flt ++ junk⟩ : B) ∈ H)) := by
  refine Fn_.intro Tryd.func118 rfl rfl (by rfl) ?_
  refine CS.seq ?_
  refine CS.region ?_
  refine RS.q rfl (QO.assign) ?_
  refine RS.q rfl (QO.assign) ?_
  refine RS.nil ?_
  refine thenC_n ?_
  refine CS.seq ?_
  refine CS.region ?_
  refine RS.q rfl (QO.move) ?_
  refine RS.call rfl (by rfl) ok120 (by rfl) (fun w ho => splitP l m _ (ho.old hm) (by omega)) ?_
  rintro _ _ ⟨g17, rfl, rfl⟩
  refine RS.q rfl (QO.assign) ?_
  refine RS.nil ?_
  refine thenC_n ?_
  refine CS.seq ?_
  refine CS.seq ?_
  refine CS.region ?_
  refine RS.q rfl (QO.move) ?_
  refine RS.q rfl (QO.lenS Tryd.underlying152 (by rfl)) ?_
  refine RS.q rfl (QO.move) ?_
  refine RS.q rfl (QO.neq (by rfl) (by rfl)) ?_
  refine RS.nil ?_
  refine thenC_n ?_
  refine CS.cond (by rfl) (fun hb0 => ?_) (fun hb0 => ?_)
  · have hb0p := bne_iff_ne.1 hb0
    refine CS.seq ?_
    refine CS.region ?_
    refine RS.q rfl (QO.assign) ?_
    refine RS.q rfl (QO.assign) ?_
    refine RS.nil ?_
    refine thenC_n ?_
    refine CS.ret ?_
    refine thenC_r ?_
    refine retQ.mk (H' := []) (.inr rfl) (RVs.tmp (by rfl) (RVs.tmp (by rfl) RVs.nil)) (List.nil_sublist _) ?_
    exact ⟨none, 0, 0, rw_v (rowE_many hb0p), fun e => by rw [rowE_many hb0p] at e; cases e⟩
  · have hb0p := of_bne_false hb0
    refine CS.skip ?_
    refine thenC_n ?_
    refine CS.seq ?_
    refine CS.region ?_
    refine RS.q rfl (QO.assign) ?_
    refine RS.nil ?_
    refine thenC_n ?_
    refine CS.seq ?_
    refine CS.region ?_
    refine RS.q rfl (QO.assign) ?_
    refine RS.nil ?_
    refine thenC_n ?_
    refine CS.seq ?_
    refine CS.seq ?_
    refine CS.region ?_
    refine RS.q rfl (QO.move) ?_
    refine RS.q rfl (QO.lenS Tryd.underlying152 (by rfl)) ?_
    refine RS.q rfl (QO.move) ?_
    refine RS.nil ?_
    refine thenC_n ?_
    refine CS.block ?_
    refine CS.loop (X := Nat × Value × HL) (4 :: 5 :: 7 :: 8 :: 10 :: 11 :: 13 :: 14 :: 15 :: 24 :: 25 :: 26 :: 27 :: 28 :: 29 :: 30 :: 31 :: 32 :: 33 :: 34 :: 35 :: 36 :: 37 :: 38 :: 39 :: 40 :: 41 :: 42 :: 43 :: 44 :: 45 :: 46 :: 47 :: 48 :: 49 :: 50 :: 51 :: 52 :: 53 :: 54 :: 55 :: []) (fun z => [(24, iv (z.1 : Int)), (7, z.2.1), (8, iv (wst (((pxs l).take z.1).any frmP)))]) (fun z => ⟨g17, 9, (pxs l).map sv⟩ :: z.2.2) (fun z => z.1 ≤ (pxs l).length ∧ ((pxs l).take z.1).any badP = false ∧ Row 36 1 z.2.1 (((pxs l).take z.1).flatMap valP).length ((((pxs l).take z.1).flatMap valP).map flt) z.2.2) (fun z => (pxs l).length - z.1) (0, .slice none 0 0, []) ⟨Nat.zero_le _, by simp, .nil⟩ ?_ ?_ ?_
    · exact (by repeat (first | exact kn_nil | refine kn_cons (by rfl) ?_))
    · exact (by repeat (first | exact List.Sublist.refl _ | exact List.nil_sublist _ | refine List.Sublist.cons_cons _ ?_ | refine List.Sublist.cons _ ?_ | exact Sbp.refl | exact Sbp.nil | refine Sbp.cons (by repeat (first | exact Rem.head | apply Rem.tail)) ?_ | exact Sbp.app | refine Sbp.skip ?_ | exact List.sublist_append_left _ _ | exact List.sublist_append_right _ _))
    · intro z gj7 hz
      obtain ⟨i, v, Hr⟩ := z
      obtain ⟨hi, hbad, hrow⟩ := hz
      replace hi : i ≤ (pxs l).length := hi
      replace hbad : ((pxs l).take i).any badP = false := hbad
      replace hrow : Row 36 1 v (((pxs l).take i).flatMap valP).length ((((pxs l).take i).flatMap valP).map flt) Hr := hrow
      have hlen : (((pxs l).take i).flatMap valP).length = 4 * i := by rw [flat_len hbad, List.length_take, Nat.min_eq_left hi]
      show CS _ _ _ _ _ (puts (mix _ _ _) [(24, iv (i : Int)), (7, v), (8, iv (wst (((pxs l).take i).any frmP)))]) (⟨g17, 9, (pxs l).map sv⟩ :: Hr)
      refine CS.seq ?_
      refine CS.region ?_
      refine RS.q rfl (QO.lss (by rfl) (by rfl)) ?_
      refine RS.nil ?_
      refine thenC_n ?_
      refine CS.seq ?_
      refine CS.cond (by rfl) (fun hb1 => ?_) (fun hb1 => ?_)
      · have hb1p := of_decide_eq_true hb1
        refine CS.skip ?_
        refine thenC_n ?_
        refine CS.seq ?_
        refine CS.block ?_
        refine CS.seq ?_
        refine CS.region ?_
        obtain ⟨p, hp⟩ : ∃ p, p = (pxs l).getD i [] := ⟨_, rfl⟩
        have hpi : (pxs l)[i]? = some p := by rw [hp]; exact at_getD (show i < (pxs l).length by omega)
        have hpl : p.length ≤ l.length := pcs_each (by simp) (List.mem_of_getElem? hpi)
        first | (refine RS.q rfl (QO.idx0 Tryd.underlying152 ty9 (by rfl) (by rfl) (by rfl) (by omega)) ?_) | (refine RS.q rfl (QO.idxn Tryd.underlying152 ty9 (by rfl) (by rfl) (by rfl) (by omega)) ?_) | (refine RS.q rfl (QO.idx1 Tryd.underlying152 ty9 (by rfl) (by rfl) (by omega) (by omega)) ?_)
        refine RS.qv rfl (QO.load ty9 (by rfl) (by repeat (first | exact List.Mem.head _ | refine List.Mem.tail _ ?_)) (sv_cell (show i < (pxs l).length by omega))) (show sv ((pxs l).getD i []) = sv p from by rw [hp]) ?_
        refine RS.q rfl (QO.assign) ?_
        refine RS.nil ?_
        refine thenC_n ?_
        refine CS.seq ?_
        refine CS.region ?_
        refine RS.q rfl (QO.move) ?_
        refine RS.call rfl (by rfl) ok120 (by rfl) (fun w ho => splitW p m _ (ho.old hm) (by omega)) ?_
        rintro _ _ ⟨g29, rfl, rfl⟩
        refine RS.q rfl (QO.assign) ?_
        refine RS.nil ?_
        refine thenC_n ?_
        refine CS.seq ?_
        refine CS.seq ?_
        refine CS.region ?_
        refine RS.q rfl (QO.move) ?_
        refine RS.q rfl (QO.lenS Tryd.underlying152 (by rfl)) ?_
        refine RS.q rfl (QO.neq (by rfl) (by rfl)) ?_
        refine RS.nil ?_
        refine thenC_n ?_
        refine CS.cond (by rfl) (fun hb2 => ?_) (fun hb2 => ?_)
        · have hb2p := bne_iff_ne.1 hb2
          refine CS.seq ?_
          refine CS.region ?_
          refine RS.q rfl (QO.assign) ?_
          refine RS.q rfl (QO.assign) ?_
          refine RS.nil ?_
          refine thenC_n ?_
          refine CS.ret ?_
          refine thenC_r ?_
          refine blockC_r ?_
          refine thenC_r ?_
          refine loopQ_r ?_
          refine blockC_r ?_
          refine thenC_r ?_
          refine retQ.mk (H' := []) (.inr rfl) (RVs.tmp (by rfl) (RVs.tmp (by rfl) RVs.nil)) (List.nil_sublist _) ?_
          have h9 : rowE l w = 9 := rowE_bad hpi (badP_len (by omega))
          exact ⟨none, 0, 0, rw_v h9, fun e => by rw [h9] at e; cases e⟩
        · have hb2p := of_bne_false hb2
          refine CS.skip ?_
          refine thenC_n ?_
          refine CS.seq ?_
          refine CS.region ?_
          refine RS.q rfl (QO.move) ?_
          refine RS.q rfl (QO.lenS Tryd.underlying152 (by rfl)) ?_
          refine RS.q rfl (QO.move) ?_
          refine RS.nil ?_
          refine thenC_n ?_
          refine CS.block ?_
          have hwl : (wds p).length = 4 := by omega
          refine CS.loop (X := Nat × Value × HL) (4 :: 5 :: 7 :: 8 :: 13 :: 14 :: 15 :: 35 :: 36 :: 37 :: 38 :: 39 :: 40 :: 41 :: 42 :: 43 :: 44 :: 45 :: 46 :: 47 :: 48 :: 49 :: 50 :: 51 :: 52 :: 53 :: 54 :: []) (fun z => [(35, iv (z.1 : Int)), (7, z.2.1), (8, iv (wst (((pxs l).take i).any frmP || ((wds p).take z.1).any frmW)))]) (fun z => ⟨g29, 9, (wds p).map sv⟩ :: ⟨g17, 9, (pxs l).map sv⟩ :: z.2.2) (fun z => z.1 ≤ 4 ∧ ((wds p).take z.1).any badW = false ∧ Row 36 1 z.2.1 (((pxs l).take i).flatMap valP ++ ((wds p).take z.1).map hxV).length ((((pxs l).take i).flatMap valP ++ ((wds p).take z.1).map hxV).map flt) z.2.2) (fun z => 4 - z.1) (0, v, Hr) ⟨Nat.zero_le _, by simp, (by show Row 36 1 v (((pxs l).take i).flatMap valP ++ ((wds p).take 0).map hxV).length ((((pxs l).take i).flatMap valP ++ ((wds p).take 0).map hxV).map flt) Hr; rw [List.take_zero, List.map_nil, List.append_nil]; exact hrow)⟩ ?_ ?_ ?_
          · exact kn_cons (by rfl) (kn_cons (by rfl) (kn_cons (congrArg iv (show wst (((pxs l).take i).any frmP) = wst (((pxs l).take i).any frmP || ((wds p).take 0).any frmW) from by simp)) kn_nil))
          · exact (by repeat (first | exact List.Sublist.refl _ | exact List.nil_sublist _ | refine List.Sublist.cons_cons _ ?_ | refine List.Sublist.cons _ ?_ | exact Sbp.refl | exact Sbp.nil | refine Sbp.cons (by repeat (first | exact Rem.head | apply Rem.tail)) ?_ | exact Sbp.app | refine Sbp.skip ?_ | exact List.sublist_append_left _ _ | exact List.sublist_append_right _ _))
          · intro z gj13 hz
            obtain ⟨j, v2, Hr2⟩ := z
            obtain ⟨hj, hbw, hrow2⟩ := hz
            replace hj : j ≤ 4 := hj
            replace hbw : ((wds p).take j).any badW = false := hbw
            replace hrow2 : Row 36 1 v2 (((pxs l).take i).flatMap valP ++ ((wds p).take j).map hxV).length ((((pxs l).take i).flatMap valP ++ ((wds p).take j).map hxV).map flt) Hr2 := hrow2
            have hlen2 : (((pxs l).take i).flatMap valP ++ ((wds p).take j).map hxV).length = 4 * i + j := by rw [List.length_append, hlen, List.length_map, List.length_take, Nat.min_eq_left (by omega)]
            have hmany := pcs_many (l := l) (sep := 32 :: 124 :: 32 :: []) (by simp)
            replace hmany : (pxs l).length ≤ l.length + 1 := hmany
            show CS _ _ _ _ _ (puts (mix _ _ _) [(35, iv (j : Int)), (7, v2), (8, iv (wst (((pxs l).take i).any frmP || ((wds p).take j).any frmW)))]) (⟨g29, 9, (wds p).map sv⟩ :: ⟨g17, 9, (pxs l).map sv⟩ :: Hr2)
            refine CS.seq ?_
            refine CS.region ?_
            refine RS.q rfl (QO.lss (by rfl) (by rfl)) ?_
            refine RS.nil ?_
            refine thenC_n ?_
            refine CS.seq ?_
            refine CS.cond (by rfl) (fun hb3 => ?_) (fun hb3 => ?_)
            · have hb3p := of_decide_eq_true hb3
              refine CS.skip ?_
              refine thenC_n ?_
              refine CS.seq ?_
              refine CS.block ?_
              refine CS.seq ?_
              refine CS.region ?_
              have hwj : (wds p)[j]? = some ((wds p).getD j []) := at_getD (show j < (wds p).length by omega)
              first | (refine RS.q rfl (QO.idx0 Tryd.underlying152 ty9 (by rfl) (by rfl) (by rfl) (by omega)) ?_) | (refine RS.q rfl (QO.idxn Tryd.underlying152 ty9 (by rfl) (by rfl) (by rfl) (by omega)) ?_) | (refine RS.q rfl (QO.idx1 Tryd.underlying152 ty9 (by rfl) (by rfl) (by omega) (by omega)) ?_)
              refine RS.q rfl (QO.load ty9 (by rfl) (by repeat (first | exact List.Mem.head _ | refine List.Mem.tail _ ?_)) (sv_cell (show j < (wds p).length by omega))) ?_
              refine RS.q rfl (QO.assign) ?_
              refine RS.nil ?_
              refine thenC_n ?_
              refine CS.seq ?_
              refine CS.region ?_
              refine RS.q rfl (QO.move) ?_
              refine RS.call rfl (by rfl) ok149 (by rfl) (fun w ho => parseHex ((wds p).getD j []) _) ?_
              rintro _ _ ⟨rfl, rfl⟩
              refine RS.q rfl (QO.move) ?_
              refine RS.q rfl (QO.extract (by rfl) (by rfl)) ?_
              refine RS.q rfl (QO.extract (by rfl) (by rfl)) ?_
              refine RS.q rfl (QO.assign) ?_
              refine RS.q rfl (QO.assign) ?_
              refine RS.nil ?_
              refine thenC_n ?_
              refine CS.seq ?_
              refine CS.seq ?_
              refine CS.region ?_
              refine RS.q rfl (QO.move) ?_
              refine RS.q rfl (QO.eql (by rfl) (by rfl)) ?_
              refine RS.nil ?_
              refine thenC_n ?_
              refine CS.cond (by rfl) (fun hb4 => ?_) (fun hb4 => ?_)
              · have hb4p := eq_of_beq hb4
                refine CS.seq ?_
                refine CS.region ?_
                refine RS.q rfl (QO.move) ?_
                refine RS.q rfl (QO.assign) ?_
                refine RS.q rfl (QO.assign) ?_
                refine RS.nil ?_
                refine thenC_n ?_
                refine CS.ret ?_
                refine thenC_r ?_
                refine blockC_r ?_
                refine thenC_r ?_
                refine loopQ_r ?_
                refine blockC_r ?_
                refine blockC_r ?_
                refine thenC_r ?_
                refine loopQ_r ?_
                refine blockC_r ?_
                refine thenC_r ?_
                refine retQ.mk (H' := []) (.inr rfl) (RVs.tmp (by rfl) (RVs.tmp (by rfl) RVs.nil)) (List.nil_sublist _) ?_
                have h8 : hxE ((wds p).getD j []) = 9 := hb4p
                have h9 : rowE l w = 9 := rowE_bad hpi (badP_word hwj h8)
                exact ⟨none, 0, 0, rw_v (h9.trans h8.symm), fun e => by rw [h9] at e; cases e⟩
              · have hb4p := ne_of_beq_false hb4
                refine CS.skip ?_
                refine thenC_n ?_
                refine CS.cut (X := Unit) [8, 47, 48, 49] (fun z => [(8, iv (wst (((pxs l).take i).any frmP || ((wds p).take (j + 1)).any frmW)))]) (fun z => ⟨g29, 9, (wds p).map sv⟩ :: ⟨g17, 9, (pxs l).map sv⟩ :: Hr2) (fun z => True) ?_ ?_
                · refine CS.seq ?_
                  refine CS.region ?_
                  refine RS.q rfl (QO.move) ?_
                  refine RS.q rfl (QO.neq (by rfl) (by rfl)) ?_
                  refine RS.nil ?_
                  refine thenC_n ?_
                  refine CS.cond (by rfl) (fun hb5 => ?_) (fun hb5 => ?_)
                  · have hb5p := bne_iff_ne.1 hb5
                    refine CS.region ?_
                    refine RS.q rfl (QO.move) ?_
                    refine RS.q rfl (QO.assign) ?_
                    refine RS.nil ?_
                    refine cutQ_n (by intro t ht; repeat (first | with_reducible exact rfl | exact frame_puts ht (frame_mix ht) _ rfl | (refine frame_put rfl ht ?_) | (refine frame_puts ht ?_ _ rfl) | exact frame_mix ht | (refine frame_mix2 rfl ht ?_) | exact rfl)) ?_
                    have h9 := hxE_3 ((wds p).getD j [])
                    exact ⟨(), trivial, kn_cons (congrArg iv (show hxE ((wds p).getD j []) = wst (((pxs l).take i).any frmP || ((wds p).take (j + 1)).any frmW) from by
                        rw [any_snoc hwj, show frmW ((wds p).getD j []) = true from bne_iff_ne.2 hb5p, Bool.or_true, Bool.or_true]
                        rcases h9 with h9 | h9 | h9
                        · exact absurd h9 hb4p
                        · exact h9
                        · exact absurd h9 hb5p)) kn_nil, (by repeat (first | exact List.Sublist.refl _ | exact List.nil_sublist _ | refine List.Sublist.cons_cons _ ?_ | refine List.Sublist.cons _ ?_ | exact Sbp.refl | exact Sbp.nil | refine Sbp.cons (by repeat (first | exact Rem.head | apply Rem.tail)) ?_ | exact Sbp.app | refine Sbp.skip ?_ | exact List.sublist_append_left _ _ | exact List.sublist_append_right _ _))⟩
                  · have hb5p := of_bne_false hb5
                    refine CS.skip ?_
                    refine cutQ_n (by intro t ht; repeat (first | with_reducible exact rfl | exact frame_puts ht (frame_mix ht) _ rfl | (refine frame_put rfl ht ?_) | (refine frame_puts ht ?_ _ rfl) | exact frame_mix ht | (refine frame_mix2 rfl ht ?_) | exact rfl)) ?_
                    exact ⟨(), trivial, kn_cons (congrArg iv (show wst (((pxs l).take i).any frmP || ((wds p).take j).any frmW) = wst (((pxs l).take i).any frmP || ((wds p).take (j + 1)).any frmW) from by
                        rw [any_snoc hwj, show frmW ((wds p).getD j []) = false from bne_eq_false_iff_eq.2 (of_bne_false hb5), Bool.or_false])) kn_nil, (by repeat (first | exact List.Sublist.refl _ | exact List.nil_sublist _ | refine List.Sublist.cons_cons _ ?_ | refine List.Sublist.cons _ ?_ | exact Sbp.refl | exact Sbp.nil | refine Sbp.cons (by repeat (first | exact Rem.head | apply Rem.tail)) ?_ | exact Sbp.app | refine Sbp.skip ?_ | exact List.sublist_append_left _ _ | exact List.sublist_append_right _ _))⟩
                · intro z gj hz
                  refine CS.region ?_
                  refine RS.q rfl (QO.move) ?_
                  refine RS.q rfl (QO.move) ?_
                  refine RS.buildSlice rfl Tryd.underlying32 ty36 (by decide) (by decide) (by rfl) (by rfl) ?_
                  intro g52
                  refine RS.appendRow rfl Tryd.underlying32 ty36 (by rfl) hrow2 (by repeat (first | exact Suf.base | apply Suf.cons)) (by rfl) (Src.blk (by repeat (first | exact List.Mem.head _ | refine List.Mem.tail _ ?_))) (by rfl) (by rfl) (by decide) (by decide) (by unfold maxLen; omega) (by omega) ?_
                  intro v53 H53 hrow53
                  refine RS.q rfl (QO.assign) ?_
                  refine RS.nil ?_
                  refine blockC_n ?_
                  refine thenC_n ?_
                  refine CS.region ?_
                  first | (refine RS.q rfl (QO.add (by rfl) (by rfl) (by omega) (by omega)) ?_) | (refine RS.q rfl (QO.ibin (by rfl) (by rfl) trivial) ?_)
                  refine RS.q rfl (QO.move) ?_
                  refine RS.nil ?_
                  refine loopQ_n (by intro t ht; repeat (first | with_reducible exact rfl | exact frame_puts ht (frame_mix ht) _ rfl | (refine frame_put rfl ht ?_) | (refine frame_puts ht ?_ _ rfl) | exact frame_mix ht | (refine frame_mix2 rfl ht ?_) | exact rfl)) ?_
                  exact ⟨(j + 1, v53, H53), ⟨by show j + 1 ≤ 4; omega, by
                      show ((wds p).take (j + 1)).any badW = false
                      rw [any_snoc hwj, hbw, Bool.false_or]
                      exact beq_eq_false_iff_ne.2 hb4p, by
                      show Row 36 1 v53 (((pxs l).take i).flatMap valP ++ ((wds p).take (j + 1)).map hxV).length ((((pxs l).take i).flatMap valP ++ ((wds p).take (j + 1)).map hxV).map flt) H53
                      rw [map_snoc hwj, ← List.append_assoc, List.length_append, List.map_append]
                      exact hrow53⟩, by show 4 - (j + 1) < 4 - j; omega, kn_cons (congrArg iv (by show (j : Int) + 1 = ((j + 1 : Nat) : Int); omega)) (kn_cons (by rfl) (kn_cons (by rfl) kn_nil)), (by repeat (first | exact List.Sublist.refl _ | exact List.nil_sublist _ | refine List.Sublist.cons_cons _ ?_ | refine List.Sublist.cons _ ?_ | exact Sbp.refl | exact Sbp.nil | refine Sbp.cons (by repeat (first | exact Rem.head | apply Rem.tail)) ?_ | exact Sbp.app | refine Sbp.skip ?_ | exact List.sublist_append_left _ _ | exact List.sublist_append_right _ _))⟩
            · have hb3p := of_decide_eq_false hb3
              refine CS.exit ?_
              refine thenC_x ?_
              refine loopQ_x ?_
              refine blockC_x ?_
              refine blockC_n ?_
              refine thenC_n ?_
              refine CS.region ?_
              first | (refine RS.q rfl (QO.add (by rfl) (by rfl) (by omega) (by omega)) ?_) | (refine RS.q rfl (QO.ibin (by rfl) (by rfl) trivial) ?_)
              refine RS.q rfl (QO.move) ?_
              refine RS.nil ?_
              refine loopQ_n (by intro t ht; repeat (first | with_reducible exact rfl | exact frame_puts ht (frame_mix ht) _ rfl | (refine frame_put rfl ht ?_) | (refine frame_puts ht ?_ _ rfl) | exact frame_mix ht | (refine frame_mix2 rfl ht ?_) | exact rfl)) ?_
              have hj4 : j = 4 := by omega
              have hw4 : (wds p).take j = wds p := List.take_of_length_le (by omega)
              rw [hw4] at hbw hrow2
              exact ⟨(i + 1, v2, Hr2), ⟨by show i + 1 ≤ (pxs l).length; omega, by
                  show ((pxs l).take (i + 1)).any badP = false
                  rw [any_snoc hpi, hbad, Bool.false_or]
                  unfold badP
                  rw [hbw, Bool.or_false, bne_eq_false_iff_eq]
                  omega, by
                  show Row 36 1 v2 (((pxs l).take (i + 1)).flatMap valP).length ((((pxs l).take (i + 1)).flatMap valP).map flt) Hr2
                  rw [flat_snoc hpi]
                  exact hrow2⟩, by show (pxs l).length - (i + 1) < (pxs l).length - i; omega, kn_cons (congrArg iv (by show (i : Int) + 1 = ((i + 1 : Nat) : Int); omega)) (kn_cons (by rfl) (kn_cons (congrArg iv (show wst (((pxs l).take i).any frmP || ((wds p).take j).any frmW) = wst (((pxs l).take (i + 1)).any frmP) from by rw [any_snoc hpi, hw4]; rfl)) kn_nil)), (by repeat (first | exact List.Sublist.refl _ | exact List.nil_sublist _ | refine List.Sublist.cons_cons _ ?_ | refine List.Sublist.cons _ ?_ | exact Sbp.refl | exact Sbp.nil | refine Sbp.cons (by repeat (first | exact Rem.head | apply Rem.tail)) ?_ | exact Sbp.app | refine Sbp.skip ?_ | exact List.sublist_append_left _ _ | exact List.sublist_append_right _ _))⟩
      · have hb1p := of_decide_eq_false hb1
        refine CS.exit ?_
        refine thenC_x ?_
        refine loopQ_x ?_
        refine blockC_x ?_
        refine thenC_n ?_
        refine CS.seq ?_
        refine CS.region ?_
        refine RS.q rfl (QO.move) ?_
        refine RS.q rfl (QO.move) ?_
        refine RS.q rfl (QO.assign) ?_
        refine RS.q rfl (QO.assign) ?_
        refine RS.nil ?_
        refine thenC_n ?_
        refine CS.ret ?_
        refine retQ.mk (H' := Hr) (.inr rfl) (RVs.tmp (by rfl) (RVs.tmp (by rfl) RVs.nil)) (by repeat (first | exact List.Sublist.refl _ | exact List.nil_sublist _ | refine List.Sublist.cons_cons _ ?_ | refine List.Sublist.cons _ ?_ | exact Sbp.refl | exact Sbp.nil | refine Sbp.cons (by repeat (first | exact Rem.head | apply Rem.tail)) ?_ | exact Sbp.app | refine Sbp.skip ?_ | exact List.sublist_append_left _ _ | exact List.sublist_append_right _ _)) ?_
        exact row_end (by omega) (by omega) hbad hrow

end Go.Proofs.YtapcgokcfmklbaaDoor
