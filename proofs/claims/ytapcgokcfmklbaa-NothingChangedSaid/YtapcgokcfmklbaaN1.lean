/-
  Contracts: a frame beside itself. Conditions: as each theorem says.
-/
import Derived.Test.YtapcgokcfmklbaaC16
import Derived.Test.YtapcgokcfmklbaaOps3
namespace Go.Proofs.Ytapcgokcfmklbaa
open Go Go.Proofs Go.RowKit

theorem ty31 : tyChk Try.prog 31 = some ([.int .i64 0, .int .i64 0], true, 16) := by kernel_rfl
theorem pl31 : places Try.prog 31 = some #[(0, 1), (1, 1)] := by kernel_rfl
theorem ok11 : callOK Try.prog 11 = true := by kernel_rfl
theorem ok12 : callOK Try.prog 12 = true := by kernel_rfl
theorem ok13 : callOK Try.prog 13 = true := by kernel_rfl
theorem ok14 : callOK Try.prog 14 = true := by kernel_rfl
theorem ok44 : callOK Try.prog 44 = true := by kernel_rfl
theorem ok45 : callOK Try.prog 45 = true := by kernel_rfl
theorem ok46 : callOK Try.prog 46 = true := by kernel_rfl
theorem ok48 : callOK Try.prog 48 = true := by kernel_rfl
theorem ok49 : callOK Try.prog 49 = true := by kernel_rfl
theorem ok103 : callOK Try.prog 103 = true := by kernel_rfl
theorem ok105 : callOK Try.prog 105 = true := by kernel_rfl
theorem ok107 : callOK Try.prog 107 = true := by kernel_rfl

set_option maxRecDepth 100000 in
theorem place_ (u : Nat) (W : World) (hu : u < 4294967296) : Fn_ Try.prog 105 #[flt u] W (fun v H => v = iv (plV u) ∧ H = []) := by
  refine Fn_.intro Try.func105 rfl rfl (by rfl) ?_
  refine CS.seq ?_
  refine CS.region ?_
  refine RS.q rfl (QO.assign) ?_
  refine RS.nil ?_
  refine thenC_n ?_
  refine CS.seq ?_
  refine CS.region ?_
  refine RS.q rfl (QO.move) ?_
  refine RS.q rfl (QO.ext (by rfl) (ext63 _)) ?_
  refine RS.qv rfl (QO.conv_int Try.underlying95 Try.underlying3 (by rfl)) (congrArg iv (show IntKind.i64.wrap (u : Int) = (u : Int) from w64 (by omega) (by omega))) ?_
  refine RS.q rfl (QO.assign) ?_
  refine RS.nil ?_
  refine thenC_n ?_
  refine CS.seq ?_
  refine CS.seq ?_
  refine CS.region ?_
  refine RS.q rfl (QO.move) ?_
  refine RS.q rfl (QO.and64 (by rfl) (by rfl)) ?_
  refine RS.q rfl (QO.neq (by rfl) (by rfl)) ?_
  refine RS.nil ?_
  refine thenC_n ?_
  refine CS.cond (by rfl) (fun hb0 => ?_) (fun hb0 => ?_)
  · have hb0p := bne_iff_ne.1 hb0
    refine CS.seq ?_
    refine CS.region ?_
    refine RS.q rfl (QO.move) ?_
    refine RS.q rfl (QO.and64 (by rfl) (by rfl)) ?_
    have h1 := and64_bd (i := (u : Int)) (j := 2147483647) (by decide) (by decide)
    refine RS.q rfl (QO.neg (by rfl) (by omega) (by omega)) ?_
    first | (refine RS.q rfl (QO.sub (by rfl) (by rfl) (by omega) (by omega)) ?_) | (refine RS.q rfl (QO.ibin (by rfl) (by rfl) trivial) ?_)
    refine RS.q rfl (QO.assign) ?_
    refine RS.nil ?_
    refine thenC_n ?_
    refine CS.ret ?_
    refine thenC_r ?_
    refine retQ.mk (H' := []) (.inr rfl) (RVs.tmp (by rfl) RVs.nil) (List.nil_sublist _) ?_
    exact ⟨congrArg iv (plV_1 hb0p), rfl⟩
  · have hb0p := of_bne_false hb0
    refine CS.skip ?_
    refine thenC_n ?_
    refine CS.seq ?_
    refine CS.region ?_
    refine RS.q rfl (QO.move) ?_
    refine RS.q rfl (QO.assign) ?_
    refine RS.nil ?_
    refine thenC_n ?_
    refine CS.ret ?_
    refine retQ.mk (H' := []) (.inr rfl) (RVs.tmp (by rfl) RVs.nil) (List.nil_sublist _) ?_
    exact ⟨congrArg iv (plV_2 hb0p), rfl⟩

set_option maxRecDepth 100000 in
theorem apart0 (u : Nat) (W : World) (hu : u < 4294967296) : Fn_ Try.prog 48 #[flt u, flt u] W (fun v H => v = .tuple #[iv 0, .bool (!nan32 u)] ∧ H = []) := by
  refine Fn_.intro Try.func48 rfl rfl (by rfl) ?_
  refine CS.seq ?_
  refine CS.region ?_
  refine RS.q rfl (QO.assign) ?_
  refine RS.q rfl (QO.assign) ?_
  refine RS.nil ?_
  refine thenC_n ?_
  refine CS.seq ?_
  refine CS.seq ?_
  refine CS.region ?_
  refine RS.q rfl (QO.move) ?_
  refine RS.q rfl (QO.move) ?_
  refine RS.q rfl (QO.fcmp32 (by rfl) (by rfl) (by simp)) ?_
  refine RS.q rfl (QO.move) ?_
  refine RS.split (dj := 9) (by rfl) (fun hb0 => ?_) (fun hb0 => ?_)
  · refine RS.off (dj := 9) rfl (.inl (congrArg Value.bool hb0)) (fun _ => rfl) rfl ?_
    refine RS.off (dj := 9) rfl (.inl (congrArg Value.bool hb0)) (fun _ => rfl) rfl ?_
    refine RS.off (dj := 9) rfl (.inl (congrArg Value.bool hb0)) (fun _ => rfl) rfl ?_
    refine RS.q rfl (QO.pickT (by rfl) hb0 (by rfl)) ?_
    refine RS.nil ?_
    refine thenC_n ?_
    refine CS.condT (by rfl) rfl ?_
    refine CS.seq ?_
    refine CS.region ?_
    refine RS.q rfl (QO.assign) ?_
    refine RS.q rfl (QO.assign) ?_
    refine RS.nil ?_
    refine thenC_n ?_
    refine CS.ret ?_
    refine thenC_r ?_
    refine retQ.mk (H' := []) (.inr rfl) (RVs.tmp (by rfl) (RVs.tmp (by rfl) RVs.nil)) (List.nil_sublist _) ?_
    exact ⟨congrArg (fun q => Value.tuple #[iv 0, .bool q]) (show false = !nan32 u by rw [← fneq_self, hb0]; rfl), rfl⟩
  · refine RS.on (dj := 9) rfl (congrArg Value.bool hb0) ?_
    refine RS.q rfl (QO.move) ?_
    refine RS.on (dj := 9) rfl (congrArg Value.bool hb0) ?_
    refine RS.q rfl (QO.move) ?_
    refine RS.on (dj := 9) rfl (congrArg Value.bool hb0) ?_
    refine RS.q rfl (QO.fcmp32 (by rfl) (by rfl) (by simp)) ?_
    refine RS.q rfl (QO.pickF (by rfl) hb0 (by rfl)) ?_
    refine RS.nil ?_
    refine thenC_n ?_
    refine CS.cond (by rfl) (fun hb1 => ?_) (fun hb1 => ?_)
    · refine CS.seq ?_
      refine CS.region ?_
      refine RS.q rfl (QO.assign) ?_
      refine RS.q rfl (QO.assign) ?_
      refine RS.nil ?_
      refine thenC_n ?_
      refine CS.ret ?_
      refine thenC_r ?_
      refine retQ.mk (H' := []) (.inr rfl) (RVs.tmp (by rfl) (RVs.tmp (by rfl) RVs.nil)) (List.nil_sublist _) ?_
      exact ⟨congrArg (fun q => Value.tuple #[iv 0, .bool q]) (show false = !nan32 u by rw [← fneq_self, hb1]; rfl), rfl⟩
    · refine CS.skip ?_
      refine thenC_n ?_
      refine CS.seq ?_
      refine CS.region ?_
      refine RS.q rfl (QO.move) ?_
      refine RS.call rfl (by rfl) ok105 (by rfl) (fun w ho => place_ u _ hu) ?_
      rintro _ _ ⟨rfl, rfl⟩
      refine RS.q rfl (QO.move) ?_
      refine RS.call rfl (by rfl) ok105 (by rfl) (fun w ho => place_ u _ hu) ?_
      rintro _ _ ⟨rfl, rfl⟩
      have hp := plV_bd hu
      first | (refine RS.qv rfl (QO.sub (by rfl) (by rfl) (by omega) (by omega)) (congrArg iv (show plV u - plV u = 0 by omega)) ?_) | (refine RS.qv rfl (QO.ibin (by rfl) (by rfl) trivial) (congrArg iv (show plV u - plV u = 0 by omega)) ?_)
      refine RS.q rfl (QO.assign) ?_
      refine RS.q rfl (QO.assign) ?_
      refine RS.nil ?_
      refine thenC_n ?_
      refine CS.ret ?_
      refine retQ.mk (H' := []) (.inr rfl) (RVs.tmp (by rfl) (RVs.tmp (by rfl) RVs.nil)) (List.nil_sublist _) ?_
      exact ⟨congrArg (fun q => Value.tuple #[iv 0, .bool q]) (show true = !nan32 u by rw [← fneq_self, hb0]; rfl), rfl⟩

set_option maxRecDepth 100000 in
theorem less0 (W : World) : Fn_ Try.prog 45 #[flt 0, flt 0] W (fun v H => v = iv 0 ∧ H = []) := by
  refine Fn_.intro Try.func45 rfl rfl (by rfl) ?_
  refine CS.seq ?_
  refine CS.region ?_
  refine RS.q rfl (QO.assign) ?_
  refine RS.nil ?_
  refine thenC_n ?_
  refine CS.seq ?_
  refine CS.block ?_
  refine CS.seq ?_
  refine CS.region ?_
  refine RS.q rfl (QO.move) ?_
  refine RS.q rfl (QO.move) ?_
  refine RS.qv rfl (QO.fcmp32 (by rfl) (by rfl) (by simp)) (congrArg Value.bool (show fcmpB .neq 0 0 = false by decide +kernel)) ?_
  refine RS.q rfl (QO.move) ?_
  refine RS.off (dj := 11) rfl (.inl (congrArg Value.bool rfl)) (fun _ => rfl) rfl ?_
  refine RS.off (dj := 11) rfl (.inl (congrArg Value.bool rfl)) (fun _ => rfl) rfl ?_
  refine RS.off (dj := 11) rfl (.inl (congrArg Value.bool rfl)) (fun _ => rfl) rfl ?_
  refine RS.q rfl (QO.pickF (by rfl) rfl (by rfl)) ?_
  refine RS.q rfl (QO.assign) ?_
  refine RS.nil ?_
  refine thenC_n ?_
  refine CS.condF (by rfl) rfl ?_
  refine CS.seq ?_
  refine CS.region ?_
  refine RS.q rfl (QO.move) ?_
  refine RS.q rfl (QO.move) ?_
  refine RS.qv rfl (QO.fcmp32 (by rfl) (by rfl) (by simp)) (congrArg Value.bool (show fcmpB .neq 0 0 = false by decide +kernel)) ?_
  refine RS.q rfl (QO.assign) ?_
  refine RS.nil ?_
  refine thenC_n ?_
  refine CS.condF (by rfl) rfl ?_
  refine CS.seq ?_
  refine CS.region ?_
  refine RS.q rfl (QO.move) ?_
  refine RS.q rfl (QO.move) ?_
  refine RS.qv rfl (QO.fcmp32 (by rfl) (by rfl) (by simp)) (congrArg Value.bool (show fcmpB .neq 0 0 = false by decide +kernel)) ?_
  refine RS.q rfl (QO.assign) ?_
  refine RS.nil ?_
  refine thenC_n ?_
  refine CS.condF (by rfl) rfl ?_
  refine CS.skip ?_
  refine blockC_n ?_
  refine thenC_n ?_
  refine CS.seq ?_
  refine CS.region ?_
  refine RS.q rfl (QO.move) ?_
  refine RS.q rfl (QO.move) ?_
  refine RS.call rfl (by rfl) ok48 (by rfl) (fun w ho => apart0 0 _ (by decide)) ?_
  rintro _ _ ⟨rfl, rfl⟩
  refine RS.q rfl (QO.move) ?_
  refine RS.q rfl (QO.extract (by rfl) (by rfl)) ?_
  refine RS.q rfl (QO.extract (by rfl) (by rfl)) ?_
  refine RS.q rfl (QO.assign) ?_
  refine RS.q rfl (QO.assign) ?_
  refine RS.nil ?_
  refine thenC_n ?_
  refine CS.seq ?_
  refine CS.region ?_
  refine RS.q rfl (QO.move) ?_
  refine RS.q rfl (QO.assign) ?_
  refine RS.nil ?_
  refine thenC_n ?_
  refine CS.ret ?_
  refine retQ.mk (H' := []) (.inr rfl) (RVs.tmp (by rfl) RVs.nil) (List.nil_sublist _) ?_
  exact ⟨rfl, rfl⟩

set_option maxRecDepth 100000 in
theorem difference0 (u : Nat) (W : World) : Fn_ Try.prog 103 #[flt u, flt u] W (fun v H => v = flt 0 ∧ H = []) := by
  refine Fn_.intro Try.func103 rfl rfl (by rfl) ?_
  refine CS.seq ?_
  refine CS.region ?_
  refine RS.q rfl (QO.assign) ?_
  refine RS.nil ?_
  refine thenC_n ?_
  refine CS.seq ?_
  refine CS.seq ?_
  refine CS.region ?_
  refine RS.q rfl (QO.move) ?_
  refine RS.call rfl (by rfl) ok43 (by rfl) (fun w ho => bits _ _) ?_
  rintro _ _ ⟨rfl, rfl⟩
  refine RS.q rfl (QO.move) ?_
  refine RS.call rfl (by rfl) ok43 (by rfl) (fun w ho => bits _ _) ?_
  rintro _ _ ⟨rfl, rfl⟩
  refine RS.qv rfl (QO.eql (by rfl) (by rfl)) (congrArg Value.bool (beq_self_eq_true _)) ?_
  refine RS.nil ?_
  refine thenC_n ?_
  refine CS.condT (by rfl) rfl ?_
  refine CS.seq ?_
  refine CS.region ?_
  refine RS.q rfl (QO.assign) ?_
  refine RS.nil ?_
  refine thenC_n ?_
  refine CS.ret ?_
  refine thenC_r ?_
  refine retQ.mk (H' := []) (.inr rfl) (RVs.tmp (by rfl) RVs.nil) (List.nil_sublist _) ?_
  exact ⟨rfl, rfl⟩

set_option maxRecDepth 100000 in
theorem differences0 (X Y : Int) (a b : Nat) (A : Option Addr) (n c : Nat) (ys : List Nat) (W : World) (hn : ys.length = n) (hA : FS W A ys) (hN : n = 4 * (a * b)) (ha : 1 ≤ a ∧ a ≤ 8) (hb : 1 ≤ b ∧ b ≤ 8) (hX : -1000 ≤ X ∧ X ≤ 1000) (hY : -1000 ≤ Y ∧ Y ≤ 1000) : Fn_ Try.prog 44 #[.agg #[iv X, iv Y, iv (a : Int), iv (b : Int), .slice A n c], .agg #[iv X, iv Y, iv (a : Int), iv (b : Int), .slice A n c]] W (fun v H => ∃ g, v = .tuple #[.slice (some ⟨g, 0, none⟩) n n, iv 0] ∧ H = [⟨g, 29, (List.replicate n 0).map flt⟩]) := by
  have hab1 := Nat.mul_le_mul ha.1 hb.1
  have hab2 := Nat.mul_le_mul ha.2 hb.2
  have hfr : frErr X Y a b n = 0 := by
    have hcast : ((a * b : Nat) : Int) = (a : Int) * (b : Int) := Int.natCast_mul ..
    have h41 : 4 * (a : Int) * (b : Int) = 4 * ((a : Int) * (b : Int)) := Int.mul_assoc ..
    unfold frErr
    rw [regErr_small ha hb hX hY, if_neg (by simp), if_neg (by omega)]
  refine Fn_.intro Try.func44 rfl rfl (by rfl) ?_
  refine CS.seq ?_
  refine CS.region ?_
  refine RS.box rfl (by rfl) (by rfl) ?_
  intro g2
  refine RS.box rfl (by rfl) (by rfl) ?_
  intro g3
  refine RS.q rfl (QO.assign) ?_
  refine RS.q rfl (QO.assign) ?_
  refine RS.nil ?_
  refine thenC_n ?_
  refine CS.seq ?_
  refine CS.seq ?_
  refine CS.region ?_
  first | (refine RS.q rfl (QO.loadB ty26 (by rfl) (by repeat (first | exact List.Mem.head _ | refine List.Mem.tail _ ?_)) (by rfl)) ?_) | (refine RS.q rfl (QO.loadA ty26 (by rfl) (by repeat (first | exact List.Mem.head _ | refine List.Mem.tail _ ?_)) (by rfl) (by rfl)) ?_) | (refine RS.q rfl (QO.loadOA ty26 (by rfl) (by assumption) (by rfl)) ?_)
  first | (refine RS.q rfl (QO.loadB ty26 (by rfl) (by repeat (first | exact List.Mem.head _ | refine List.Mem.tail _ ?_)) (by rfl)) ?_) | (refine RS.q rfl (QO.loadA ty26 (by rfl) (by repeat (first | exact List.Mem.head _ | refine List.Mem.tail _ ?_)) (by rfl) (by rfl)) ?_) | (refine RS.q rfl (QO.loadOA ty26 (by rfl) (by assumption) (by rfl)) ?_)
  refine RS.call rfl (by rfl) ok47 (by rfl) (fun w ho => checkTwo X Y a b A A n n c c _ hfr hfr) ?_
  rintro _ _ ⟨rfl, rfl⟩
  refine RS.q rfl (QO.assign) ?_
  refine RS.nil ?_
  refine thenC_n ?_
  refine CS.seq ?_
  refine CS.region ?_
  refine RS.q rfl (QO.move) ?_
  refine RS.q rfl (QO.neq (by rfl) (by rfl)) ?_
  refine RS.nil ?_
  refine thenC_n ?_
  refine CS.condF (by rfl) rfl ?_
  refine CS.skip ?_
  refine thenC_n ?_
  refine CS.seq ?_
  refine CS.region ?_
  refine RS.q rfl (QO.fieldAddr fo26_1 (by rfl)) ?_
  first | (refine RS.q rfl (QO.load ty24 (by rfl) (by repeat (first | exact List.Mem.head _ | refine List.Mem.tail _ ?_)) (by rfl)) ?_) | (refine RS.q rfl (QO.loadO ty24 (by rfl) (by assumption)) ?_) | (refine RS.q rfl (QO.load ty24 (by rfl) (by repeat (first | exact List.Mem.head _ | refine List.Mem.tail _ ?_)) (by assumption)) ?_)
  refine RS.q rfl (QO.lenS Try.underlying24 (by rfl)) ?_
  refine RS.make rfl Try.underlying24 ty29 (by rfl) (by rfl) (by omega) (by omega) (by omega) (by omega) ?_
  intro g19
  refine RS.q rfl (QO.assign) ?_
  refine RS.nil ?_
  refine thenC_n ?_
  refine CS.seq ?_
  refine CS.seq ?_
  refine CS.region ?_
  refine RS.q rfl (QO.fieldAddr fo26_1 (by rfl)) ?_
  first | (refine RS.q rfl (QO.load ty24 (by rfl) (by repeat (first | exact List.Mem.head _ | refine List.Mem.tail _ ?_)) (by rfl)) ?_) | (refine RS.q rfl (QO.loadO ty24 (by rfl) (by assumption)) ?_) | (refine RS.q rfl (QO.load ty24 (by rfl) (by repeat (first | exact List.Mem.head _ | refine List.Mem.tail _ ?_)) (by assumption)) ?_)
  refine RS.q rfl (QO.lenS Try.underlying24 (by rfl)) ?_
  refine RS.q rfl (QO.move) ?_
  refine RS.nil ?_
  refine thenC_n ?_
  refine CS.block ?_
  refine CS.loop (X := Nat) (8 :: 9 :: 23 :: 24 :: 25 :: 26 :: 27 :: 28 :: 29 :: 30 :: 31 :: 32 :: 33 :: 34 :: 35 :: 36 :: 37 :: 38 :: []) (fun k => [(23, iv (k : Int))]) (fun k => [⟨g19, 29, (List.replicate n 0).map flt⟩, ⟨g3, 26, [iv X, iv Y, iv (a : Int), iv (b : Int), .slice A n c]⟩, ⟨g2, 26, [iv X, iv Y, iv (a : Int), iv (b : Int), .slice A n c]⟩]) (fun k => k ≤ n) (fun k => n - k) 0 (Nat.zero_le _) ?_ ?_ ?_
  · exact (by repeat (first | exact kn_nil | refine kn_cons (by rfl) ?_))
  · exact (by rw [List.map_replicate]; exact (by repeat (first | exact List.Sublist.refl _ | exact List.nil_sublist _ | refine List.Sublist.cons_cons _ ?_ | refine List.Sublist.cons _ ?_ | exact Sbp.refl | exact Sbp.nil | refine Sbp.cons (by repeat (first | exact Rem.head | apply Rem.tail)) ?_ | exact Sbp.app | refine Sbp.skip ?_)))
  · intro k gj6 hz
    refine CS.seq ?_
    refine CS.region ?_
    refine RS.q rfl (QO.lss (by rfl) (by rfl)) ?_
    refine RS.nil ?_
    refine thenC_n ?_
    refine CS.seq ?_
    refine CS.cond (by rfl) (fun hb0 => ?_) (fun hb0 => ?_)
    · have hb0p := of_decide_eq_true hb0
      refine CS.skip ?_
      refine thenC_n ?_
      refine CS.seq ?_
      refine CS.block ?_
      refine CS.seq ?_
      refine CS.region ?_
      refine RS.q rfl (QO.move) ?_
      have hlt : k < ys.length := by omega
      obtain ⟨bA, oA, rfl, hcell⟩ := hA (by omega)
      first | (refine RS.q rfl (QO.idx0 Try.underlying24 ty29 (by rfl) (by rfl) (by rfl) (by omega)) ?_) | (refine RS.q rfl (QO.idxn Try.underlying24 ty29 (by rfl) (by rfl) (by rfl) (by omega)) ?_) | (refine RS.q rfl (QO.idx1 Try.underlying24 ty29 (by rfl) (by rfl) (by omega) (by omega)) ?_)
      refine RS.q rfl (QO.loadO ty29 (by rfl) (hcell _ _ (List.getElem?_eq_getElem hlt))) ?_
      refine RS.q rfl (QO.assign) ?_
      refine RS.q rfl (QO.assign) ?_
      refine RS.nil ?_
      refine thenC_n ?_
      refine CS.region ?_
      refine RS.q rfl (QO.move) ?_
      refine RS.q rfl (QO.move) ?_
      refine RS.q rfl (QO.move) ?_
      refine RS.q rfl (QO.fieldAddr fo26_1 (by rfl)) ?_
      first | (refine RS.q rfl (QO.load ty24 (by rfl) (by repeat (first | exact List.Mem.head _ | refine List.Mem.tail _ ?_)) (by rfl)) ?_) | (refine RS.q rfl (QO.loadO ty24 (by rfl) (by assumption)) ?_) | (refine RS.q rfl (QO.load ty24 (by rfl) (by repeat (first | exact List.Mem.head _ | refine List.Mem.tail _ ?_)) (by assumption)) ?_)
      refine RS.q rfl (QO.move) ?_
      first | (refine RS.q rfl (QO.idx0 Try.underlying24 ty29 (by rfl) (by rfl) (by rfl) (by omega)) ?_) | (refine RS.q rfl (QO.idxn Try.underlying24 ty29 (by rfl) (by rfl) (by rfl) (by omega)) ?_) | (refine RS.q rfl (QO.idx1 Try.underlying24 ty29 (by rfl) (by rfl) (by omega) (by omega)) ?_)
      refine RS.q rfl (QO.loadO ty29 (by rfl) (hcell _ _ (List.getElem?_eq_getElem hlt))) ?_
      refine RS.call rfl (by rfl) ok103 (by rfl) (fun w ho => difference0 _ _) ?_
      rintro _ _ ⟨rfl, rfl⟩
      first | (refine RS.q rfl (QO.idx0 Try.underlying24 ty29 (by rfl) (by rfl) (by rfl) (by omega)) ?_) | (refine RS.q rfl (QO.idxn Try.underlying24 ty29 (by rfl) (by rfl) (by rfl) (by omega)) ?_) | (refine RS.q rfl (QO.idx1 Try.underlying24 ty29 (by rfl) (by rfl) (by omega) (by omega)) ?_)
      refine RS.store1e ty29 rfl (by rfl) (by rfl) (by rfl) (zeros_set n k) (by repeat (first | exact Upd.head | apply Upd.tail)) (by simp; omega) ?_
      refine RS.nil ?_
      refine blockC_n ?_
      refine thenC_n ?_
      refine CS.region ?_
      first | (refine RS.q rfl (QO.add (by rfl) (by rfl) (by omega) (by omega)) ?_) | (refine RS.q rfl (QO.ibin (by rfl) (by rfl) trivial) ?_)
      refine RS.q rfl (QO.move) ?_
      refine RS.nil ?_
      refine loopQ_n (by intro t ht; repeat (first | with_reducible exact rfl | exact frame_puts ht (frame_mix ht) _ rfl | (refine frame_put rfl ht ?_) | (refine frame_puts ht ?_ _ rfl) | exact frame_mix ht | (refine frame_mix2 rfl ht ?_) | exact rfl)) ?_
      exact ⟨k + 1, by omega, by omega, (by repeat (first | exact kn_nil | refine kn_cons (by rfl) ?_)), (by repeat (first | exact List.Sublist.refl _ | exact List.nil_sublist _ | refine List.Sublist.cons_cons _ ?_ | refine List.Sublist.cons _ ?_ | exact Sbp.refl | exact Sbp.nil | refine Sbp.cons (by repeat (first | exact Rem.head | apply Rem.tail)) ?_ | exact Sbp.app | refine Sbp.skip ?_))⟩
    · have hb0p := of_decide_eq_false hb0
      refine CS.exit ?_
      refine thenC_x ?_
      refine loopQ_x ?_
      refine blockC_x ?_
      refine thenC_n ?_
      refine CS.seq ?_
      refine CS.region ?_
      refine RS.q rfl (QO.move) ?_
      refine RS.q rfl (QO.assign) ?_
      refine RS.q rfl (QO.assign) ?_
      refine RS.nil ?_
      refine thenC_n ?_
      refine CS.ret ?_
      refine retQ.mk (H' := [⟨g19, 29, (List.replicate n 0).map flt⟩]) (.inr rfl) (RVs.tmp (by rfl) (RVs.tmp (by rfl) RVs.nil)) (by repeat (first | exact List.Sublist.refl _ | exact List.nil_sublist _ | refine List.Sublist.cons_cons _ ?_ | refine List.Sublist.cons _ ?_ | exact Sbp.refl | exact Sbp.nil | refine Sbp.cons (by repeat (first | exact Rem.head | apply Rem.tail)) ?_ | exact Sbp.app | refine Sbp.skip ?_)) ?_
      exact ⟨g19, rfl, rfl⟩

theorem zeros_at {n k : Nat} (h : k < n) : ((List.replicate n 0).map flt)[k]? = some (flt 0) := by simp [h]

set_option maxRecDepth 100000 in
theorem peak0 (X Y : Int) (a b : Nat) (A : Option Addr) (n c : Nat) (ys : List Nat) (W : World) (hn : ys.length = n) (hA : FS W A ys) (hN : n = 4 * (a * b)) (ha : 1 ≤ a ∧ a ≤ 8) (hb : 1 ≤ b ∧ b ≤ 8) (hX : -1000 ≤ X ∧ X ≤ 1000) (hY : -1000 ≤ Y ∧ Y ≤ 1000) : Fn_ Try.prog 11 #[.agg #[iv X, iv Y, iv (a : Int), iv (b : Int), .slice A n c], .agg #[iv X, iv Y, iv (a : Int), iv (b : Int), .slice A n c]] W (fun v H => ∃ x y, v = .tuple #[flt 0, .agg #[iv x, iv y], iv 0] ∧ H = []) := by
  have hab1 := Nat.mul_le_mul ha.1 hb.1
  have hab2 := Nat.mul_le_mul ha.2 hb.2
  have hfr : frErr X Y a b n = 0 := by
    have hcast : ((a * b : Nat) : Int) = (a : Int) * (b : Int) := Int.natCast_mul ..
    have h41 : 4 * (a : Int) * (b : Int) = 4 * ((a : Int) * (b : Int)) := Int.mul_assoc ..
    unfold frErr
    rw [regErr_small ha hb hX hY, if_neg (by simp), if_neg (by omega)]
  refine Fn_.intro Try.func11 rfl rfl (by rfl) ?_
  refine CS.seq ?_
  refine CS.region ?_
  refine RS.box rfl (by rfl) (by rfl) ?_
  intro g2
  refine RS.box rfl (by rfl) (by rfl) ?_
  intro g3
  refine RS.q rfl (QO.assign) ?_
  refine RS.alloc rfl ty31 ?_
  intro g5
  refine RS.q rfl (QO.assign) ?_
  refine RS.nil ?_
  refine thenC_n ?_
  refine CS.seq ?_
  refine CS.region ?_
  first | (refine RS.q rfl (QO.loadB ty26 (by rfl) (by repeat (first | exact List.Mem.head _ | refine List.Mem.tail _ ?_)) (by rfl)) ?_) | (refine RS.q rfl (QO.loadA ty26 (by rfl) (by repeat (first | exact List.Mem.head _ | refine List.Mem.tail _ ?_)) (by rfl) (by rfl)) ?_) | (refine RS.q rfl (QO.loadOA ty26 (by rfl) (by assumption) (by rfl)) ?_)
  first | (refine RS.q rfl (QO.loadB ty26 (by rfl) (by repeat (first | exact List.Mem.head _ | refine List.Mem.tail _ ?_)) (by rfl)) ?_) | (refine RS.q rfl (QO.loadA ty26 (by rfl) (by repeat (first | exact List.Mem.head _ | refine List.Mem.tail _ ?_)) (by rfl) (by rfl)) ?_) | (refine RS.q rfl (QO.loadOA ty26 (by rfl) (by assumption) (by rfl)) ?_)
  refine RS.call rfl (by rfl) ok44 (by rfl) (fun w ho => differences0 X Y a b A n c ys _ hn (hA.own ho) hN ha hb hX hY) ?_
  rintro _ _ ⟨g, rfl, rfl⟩
  refine RS.q rfl (QO.move) ?_
  refine RS.q rfl (QO.extract (by rfl) (by rfl)) ?_
  refine RS.q rfl (QO.extract (by rfl) (by rfl)) ?_
  refine RS.q rfl (QO.assign) ?_
  refine RS.q rfl (QO.assign) ?_
  refine RS.nil ?_
  refine thenC_n ?_
  refine CS.seq ?_
  refine CS.seq ?_
  refine CS.region ?_
  refine RS.q rfl (QO.move) ?_
  refine RS.q rfl (QO.neq (by rfl) (by rfl)) ?_
  refine RS.nil ?_
  refine thenC_n ?_
  refine CS.condF (by rfl) rfl ?_
  refine CS.skip ?_
  refine thenC_n ?_
  refine CS.seq ?_
  refine CS.region ?_
  refine RS.q rfl (QO.assign) ?_
  refine RS.nil ?_
  refine thenC_n ?_
  refine CS.seq ?_
  refine CS.seq ?_
  refine CS.region ?_
  refine RS.q rfl (QO.move) ?_
  refine RS.q rfl (QO.lenS Try.underlying24 (by rfl)) ?_
  refine RS.q rfl (QO.move) ?_
  refine RS.nil ?_
  refine thenC_n ?_
  refine CS.block ?_
  refine CS.loop (X := Nat) (9 :: 10 :: 11 :: 24 :: 25 :: 26 :: 27 :: 28 :: 29 :: 30 :: 31 :: 32 :: 33 :: 34 :: 35 :: 36 :: 37 :: []) (fun k => [(24, iv (k : Int)), (9, iv 0)]) (fun k => [⟨g, 29, (List.replicate n 0).map flt⟩, ⟨g5, 31, [iv 0, iv 0]⟩, ⟨g3, 26, [iv X, iv Y, iv (a : Int), iv (b : Int), .slice A n c]⟩, ⟨g2, 26, [iv X, iv Y, iv (a : Int), iv (b : Int), .slice A n c]⟩]) (fun k => k ≤ n) (fun k => n - k) 0 (Nat.zero_le _) ?_ ?_ ?_
  · exact (by repeat (first | exact kn_nil | refine kn_cons (by rfl) ?_))
  · exact (by repeat (first | exact List.Sublist.refl _ | exact List.nil_sublist _ | refine List.Sublist.cons_cons _ ?_ | refine List.Sublist.cons _ ?_ | exact Sbp.refl | exact Sbp.nil | refine Sbp.cons (by repeat (first | exact Rem.head | apply Rem.tail)) ?_ | exact Sbp.app | refine Sbp.skip ?_))
  · intro k gj6 hz
    refine CS.seq ?_
    refine CS.region ?_
    refine RS.q rfl (QO.lss (by rfl) (by rfl)) ?_
    refine RS.nil ?_
    refine thenC_n ?_
    refine CS.seq ?_
    refine CS.cond (by rfl) (fun hb0 => ?_) (fun hb0 => ?_)
    · have hb0p := of_decide_eq_true hb0
      refine CS.skip ?_
      refine thenC_n ?_
      refine CS.seq ?_
      refine CS.block ?_
      refine CS.seq ?_
      refine CS.region ?_
      refine RS.q rfl (QO.move) ?_
      first | (refine RS.q rfl (QO.idx0 Try.underlying24 ty29 (by rfl) (by rfl) (by rfl) (by omega)) ?_) | (refine RS.q rfl (QO.idxn Try.underlying24 ty29 (by rfl) (by rfl) (by rfl) (by omega)) ?_) | (refine RS.q rfl (QO.idx1 Try.underlying24 ty29 (by rfl) (by rfl) (by omega) (by omega)) ?_)
      refine RS.q rfl (QO.load ty29 (by rfl) (by repeat (first | exact List.Mem.head _ | refine List.Mem.tail _ ?_)) (zeros_at (by omega))) ?_
      refine RS.q rfl (QO.assign) ?_
      refine RS.q rfl (QO.assign) ?_
      refine RS.nil ?_
      refine thenC_n ?_
      refine CS.seq ?_
      refine CS.region ?_
      refine RS.q rfl (QO.move) ?_
      refine RS.q rfl (QO.move) ?_
      refine RS.q rfl (QO.move) ?_
      first | (refine RS.q rfl (QO.idx0 Try.underlying24 ty29 (by rfl) (by rfl) (by rfl) (by omega)) ?_) | (refine RS.q rfl (QO.idxn Try.underlying24 ty29 (by rfl) (by rfl) (by rfl) (by omega)) ?_) | (refine RS.q rfl (QO.idx1 Try.underlying24 ty29 (by rfl) (by rfl) (by omega) (by omega)) ?_)
      refine RS.q rfl (QO.load ty29 (by rfl) (by repeat (first | exact List.Mem.head _ | refine List.Mem.tail _ ?_)) (zeros_at (show 0 < n by omega))) ?_
      refine RS.call rfl (by rfl) ok45 (by rfl) (fun w ho => less0 _) ?_
      rintro _ _ ⟨rfl, rfl⟩
      refine RS.q rfl (QO.gtr (by rfl) (by rfl)) ?_
      refine RS.nil ?_
      refine thenC_n ?_
      refine CS.condF (by rfl) rfl ?_
      refine CS.skip ?_
      refine blockC_n ?_
      refine thenC_n ?_
      refine CS.region ?_
      first | (refine RS.q rfl (QO.add (by rfl) (by rfl) (by omega) (by omega)) ?_) | (refine RS.q rfl (QO.ibin (by rfl) (by rfl) trivial) ?_)
      refine RS.q rfl (QO.move) ?_
      refine RS.nil ?_
      refine loopQ_n (by intro t ht; repeat (first | with_reducible exact rfl | exact frame_puts ht (frame_mix ht) _ rfl | (refine frame_put rfl ht ?_) | (refine frame_puts ht ?_ _ rfl) | exact frame_mix ht | (refine frame_mix2 rfl ht ?_) | exact rfl)) ?_
      exact ⟨k + 1, by omega, by omega, (by repeat (first | exact kn_nil | refine kn_cons (by rfl) ?_)), (by repeat (first | exact List.Sublist.refl _ | exact List.nil_sublist _ | refine List.Sublist.cons_cons _ ?_ | refine List.Sublist.cons _ ?_ | exact Sbp.refl | exact Sbp.nil | refine Sbp.cons (by repeat (first | exact Rem.head | apply Rem.tail)) ?_ | exact Sbp.app | refine Sbp.skip ?_))⟩
    · have hb0p := of_decide_eq_false hb0
      refine CS.exit ?_
      refine thenC_x ?_
      refine loopQ_x ?_
      refine blockC_x ?_
      refine thenC_n ?_
      refine CS.seq ?_
      refine CS.draw 26 rfl (by kernel_rfl) (by kernel_rfl) ?_
      refine RT.take (i := 0) rfl (by kernel_rfl) rfl (QO.move) ?_
      refine RT.take (i := 1) rfl (by kernel_rfl) rfl (QO.move) ?_
      first | (refine RT.take (i := 2) rfl (by kernel_rfl) rfl (QO.idx0 Try.underlying24 ty29 (by rfl) (by rfl) (by rfl) (by omega)) ?_) | (refine RT.take (i := 2) rfl (by kernel_rfl) rfl (QO.idxn Try.underlying24 ty29 (by rfl) (by rfl) (by rfl) (by omega)) ?_) | (refine RT.take (i := 2) rfl (by kernel_rfl) rfl (QO.idx1 Try.underlying24 ty29 (by rfl) (by rfl) (by omega) (by omega)) ?_)
      refine RT.take (i := 3) rfl (by kernel_rfl) rfl (QO.load ty29 (by rfl) (by repeat (first | exact List.Mem.head _ | refine List.Mem.tail _ ?_)) (zeros_at (show 0 < n by omega))) ?_
      refine RT.take (i := 4) rfl (by kernel_rfl) rfl (QO.fieldAddr fo26_0 (by rfl)) ?_
      refine RT.take (i := 5) rfl (by kernel_rfl) rfl (QO.fieldAddr fo23_0 (by rfl)) ?_
      first | (refine RT.take (i := 6) rfl (by kernel_rfl) rfl (QO.load ty3 (by rfl) (by repeat (first | exact List.Mem.head _ | refine List.Mem.tail _ ?_)) (by rfl)) ?_) | (refine RT.take (i := 6) rfl (by kernel_rfl) rfl (QO.loadO ty3 (by rfl) (by assumption)) ?_) | (refine RT.take (i := 6) rfl (by kernel_rfl) rfl (QO.load ty3 (by rfl) (by repeat (first | exact List.Mem.head _ | refine List.Mem.tail _ ?_)) (by assumption)) ?_)
      refine RT.take (i := 7) rfl (by kernel_rfl) rfl (QO.move) ?_
      refine RT.takev (i := 8) rfl (by kernel_rfl) rfl (QO.quo (by rfl) (by rfl) (by omega) (by omega) (by omega)) (congrArg iv (show (0 : Int).tdiv 4 = 0 from rfl)) ?_
      refine RT.take (i := 9) rfl (by kernel_rfl) rfl (QO.fieldAddr fo26_0 (by rfl)) ?_
      refine RT.take (i := 10) rfl (by kernel_rfl) rfl (QO.fieldAddr fo23_2 (by rfl)) ?_
      first | (refine RT.take (i := 11) rfl (by kernel_rfl) rfl (QO.load ty3 (by rfl) (by repeat (first | exact List.Mem.head _ | refine List.Mem.tail _ ?_)) (by rfl)) ?_) | (refine RT.take (i := 11) rfl (by kernel_rfl) rfl (QO.loadO ty3 (by rfl) (by assumption)) ?_) | (refine RT.take (i := 11) rfl (by kernel_rfl) rfl (QO.load ty3 (by rfl) (by repeat (first | exact List.Mem.head _ | refine List.Mem.tail _ ?_)) (by assumption)) ?_)
      refine RT.takev (i := 12) rfl (by kernel_rfl) rfl (QO.rem (by rfl) (by rfl) (by omega)) (congrArg iv (show (0 : Int).tmod (a : Int) = 0 from Int.zero_tmod _)) ?_
      first | (refine RT.take (i := 13) rfl (by kernel_rfl) rfl (QO.add (by rfl) (by rfl) (by omega) (by omega)) ?_) | (refine RT.take (i := 13) rfl (by kernel_rfl) rfl (QO.ibin (by rfl) (by rfl) trivial) ?_)
      refine RT.take (i := 14) rfl (by kernel_rfl) rfl (QO.fieldAddr fo26_0 (by rfl)) ?_
      refine RT.take (i := 15) rfl (by kernel_rfl) rfl (QO.fieldAddr fo23_1 (by rfl)) ?_
      first | (refine RT.take (i := 16) rfl (by kernel_rfl) rfl (QO.load ty3 (by rfl) (by repeat (first | exact List.Mem.head _ | refine List.Mem.tail _ ?_)) (by rfl)) ?_) | (refine RT.take (i := 16) rfl (by kernel_rfl) rfl (QO.loadO ty3 (by rfl) (by assumption)) ?_) | (refine RT.take (i := 16) rfl (by kernel_rfl) rfl (QO.load ty3 (by rfl) (by repeat (first | exact List.Mem.head _ | refine List.Mem.tail _ ?_)) (by assumption)) ?_)
      refine RT.take (i := 17) rfl (by kernel_rfl) rfl (QO.move) ?_
      refine RT.takev (i := 18) rfl (by kernel_rfl) rfl (QO.quo (by rfl) (by rfl) (by omega) (by omega) (by omega)) (congrArg iv (show (0 : Int).tdiv 4 = 0 from rfl)) ?_
      refine RT.take (i := 19) rfl (by kernel_rfl) rfl (QO.fieldAddr fo26_0 (by rfl)) ?_
      refine RT.take (i := 20) rfl (by kernel_rfl) rfl (QO.fieldAddr fo23_2 (by rfl)) ?_
      first | (refine RT.take (i := 21) rfl (by kernel_rfl) rfl (QO.load ty3 (by rfl) (by repeat (first | exact List.Mem.head _ | refine List.Mem.tail _ ?_)) (by rfl)) ?_) | (refine RT.take (i := 21) rfl (by kernel_rfl) rfl (QO.loadO ty3 (by rfl) (by assumption)) ?_) | (refine RT.take (i := 21) rfl (by kernel_rfl) rfl (QO.load ty3 (by rfl) (by repeat (first | exact List.Mem.head _ | refine List.Mem.tail _ ?_)) (by assumption)) ?_)
      refine RT.takev (i := 22) rfl (by kernel_rfl) rfl (QO.quo (by rfl) (by rfl) (by omega) (by omega) (by omega)) (congrArg iv (show (0 : Int).tdiv (a : Int) = 0 from Int.zero_tdiv _)) ?_
      first | (refine RT.take (i := 23) rfl (by kernel_rfl) rfl (QO.add (by rfl) (by rfl) (by omega) (by omega)) ?_) | (refine RT.take (i := 23) rfl (by kernel_rfl) rfl (QO.ibin (by rfl) (by rfl) trivial) ?_)
      refine RT.take (i := 24) rfl (by kernel_rfl) rfl (QO.build ty31 pl31 (by rfl)) ?_
      refine RT.take (i := 25) rfl (by kernel_rfl) rfl (QO.assign) ?_
      refine RT.tail (i := 26) (by kernel_rfl) rfl rfl ?_
      first | refine RS.storeB ty31 (by rfl) (by rfl) (by rfl) (by rfl) (by rfl) (by repeat (first | exact Upd.head | apply Upd.tail)) (by rfl) ?_ | refine RS.storeP ty31 (by rfl) (by rfl) (by rfl) (by rfl) (by rfl) (by repeat (first | exact Upd.head | apply Upd.tail)) (by rfl) ?_
      refine RS.nil ?_
      refine RT.tail (i := 27) (by kernel_rfl) rfl rfl ?_
      refine RS.q rfl (QO.assign) ?_
      refine RS.nil ?_
      refine RT.done (by kernel_rfl) ?_
      refine thenC_n ?_
      refine CS.ret ?_
      refine retQ.mk (H' := []) (.inr rfl) (RVs.tmp (by rfl) (RVs.cellA ty31 (by rfl) (by repeat (first | exact List.Mem.head _ | refine List.Mem.tail _ ?_)) (by rfl) (RVs.tmp (by rfl) RVs.nil))) (List.nil_sublist _) ?_
      exact ⟨X + 0, Y + 0, rfl, rfl⟩

set_option maxRecDepth 100000 in
theorem mean0 (g n : Nat) (W : World) (h1 : 1 ≤ n) (h2 : n ≤ 256) (hA : FS W (some ⟨g, 0, none⟩) (List.replicate n 0)) : Fn_ Try.prog 46 #[.slice (some ⟨g, 0, none⟩) n n] W (fun v H => v = .tuple #[flt 0, iv 0] ∧ H = []) := by
  refine Fn_.intro Try.func46 rfl rfl (by rfl) ?_
  refine CS.seq ?_
  refine CS.region ?_
  refine RS.q rfl (QO.assign) ?_
  refine RS.q rfl (QO.assign) ?_
  refine RS.nil ?_
  refine thenC_n ?_
  refine CS.seq ?_
  refine CS.seq ?_
  refine CS.region ?_
  refine RS.q rfl (QO.move) ?_
  refine RS.q rfl (QO.lenS Try.underlying24 (by rfl)) ?_
  refine RS.qv rfl (QO.eql (by rfl) (by rfl)) (congrArg Value.bool (show ((n : Int) == 0) = false by simp; omega)) ?_
  refine RS.nil ?_
  refine thenC_n ?_
  refine CS.condF (by rfl) rfl ?_
  refine CS.skip ?_
  refine thenC_n ?_
  refine CS.seq ?_
  refine CS.region ?_
  refine RS.q rfl (QO.move) ?_
  refine RS.call rfl (by rfl) ok104 (by rfl) (fun w ho => sum_ (List.replicate n 0) _ _ _ _ List.length_replicate (Nat.le_refl _) (by unfold maxLen; omega) (hA.own ho)) ?_
  rintro _ _ ⟨rfl, rfl⟩
  refine RS.q rfl (QO.move) ?_
  refine RS.q rfl (QO.lenS Try.underlying24 (by rfl)) ?_
  refine RS.q rfl (QO.conv_i64_f32 Try.underlying3 Try.underlying29 (by rfl)) ?_
  refine RS.farith rfl (by rfl) (by rfl) (by simp) ?_
  intro r12 hr12
  refine RS.call rfl (by rfl) ok57 (by rfl) (fun w ho => clean _ _) ?_
  rintro _ _ ⟨rfl, rfl⟩
  refine RS.q rfl (QO.assign) ?_
  refine RS.q rfl (QO.assign) ?_
  refine RS.nil ?_
  refine thenC_n ?_
  refine CS.ret ?_
  refine retQ.mk (H' := []) (.inr rfl) (RVs.tmp (by rfl) (RVs.tmp (by rfl) RVs.nil)) (List.nil_sublist _) ?_
  exact ⟨congrArg (fun q => Value.tuple #[flt q, iv 0]) (show cl r12 = 0 by rw [sum_zeros n n (Nat.le_refl _)] at hr12; rw [quo_zero n (by omega) (by omega)] at hr12; rw [show r12 = 0 from hr12]; decide +kernel), rfl⟩

set_option maxRecDepth 100000 in
theorem smean0 (X Y : Int) (a b : Nat) (A : Option Addr) (n c : Nat) (ys : List Nat) (W : World) (hn : ys.length = n) (hA : FS W A ys) (hN : n = 4 * (a * b)) (ha : 1 ≤ a ∧ a ≤ 8) (hb : 1 ≤ b ∧ b ≤ 8) (hX : -1000 ≤ X ∧ X ≤ 1000) (hY : -1000 ≤ Y ∧ Y ≤ 1000) : Fn_ Try.prog 12 #[.agg #[iv X, iv Y, iv (a : Int), iv (b : Int), .slice A n c], .agg #[iv X, iv Y, iv (a : Int), iv (b : Int), .slice A n c]] W (fun v H => v = .tuple #[flt 0, iv 0] ∧ H = []) := by
  have hab1 := Nat.mul_le_mul ha.1 hb.1
  have hab2 := Nat.mul_le_mul ha.2 hb.2
  have hfr : frErr X Y a b n = 0 := by
    have hcast : ((a * b : Nat) : Int) = (a : Int) * (b : Int) := Int.natCast_mul ..
    have h41 : 4 * (a : Int) * (b : Int) = 4 * ((a : Int) * (b : Int)) := Int.mul_assoc ..
    unfold frErr
    rw [regErr_small ha hb hX hY, if_neg (by simp), if_neg (by omega)]
  refine Fn_.intro Try.func12 rfl rfl (by rfl) ?_
  refine CS.seq ?_
  refine CS.region ?_
  refine RS.box rfl (by rfl) (by rfl) ?_
  intro g2
  refine RS.box rfl (by rfl) (by rfl) ?_
  intro g3
  refine RS.q rfl (QO.assign) ?_
  refine RS.q rfl (QO.assign) ?_
  refine RS.nil ?_
  refine thenC_n ?_
  refine CS.seq ?_
  refine CS.region ?_
  first | (refine RS.q rfl (QO.loadB ty26 (by rfl) (by repeat (first | exact List.Mem.head _ | refine List.Mem.tail _ ?_)) (by rfl)) ?_) | (refine RS.q rfl (QO.loadA ty26 (by rfl) (by repeat (first | exact List.Mem.head _ | refine List.Mem.tail _ ?_)) (by rfl) (by rfl)) ?_) | (refine RS.q rfl (QO.loadOA ty26 (by rfl) (by assumption) (by rfl)) ?_)
  first | (refine RS.q rfl (QO.loadB ty26 (by rfl) (by repeat (first | exact List.Mem.head _ | refine List.Mem.tail _ ?_)) (by rfl)) ?_) | (refine RS.q rfl (QO.loadA ty26 (by rfl) (by repeat (first | exact List.Mem.head _ | refine List.Mem.tail _ ?_)) (by rfl) (by rfl)) ?_) | (refine RS.q rfl (QO.loadOA ty26 (by rfl) (by assumption) (by rfl)) ?_)
  refine RS.call rfl (by rfl) ok44 (by rfl) (fun w ho => differences0 X Y a b A n c ys _ hn (hA.own ho) hN ha hb hX hY) ?_
  rintro _ _ ⟨g, rfl, rfl⟩
  refine RS.q rfl (QO.move) ?_
  refine RS.q rfl (QO.extract (by rfl) (by rfl)) ?_
  refine RS.q rfl (QO.extract (by rfl) (by rfl)) ?_
  refine RS.q rfl (QO.assign) ?_
  refine RS.q rfl (QO.assign) ?_
  refine RS.nil ?_
  refine thenC_n ?_
  refine CS.seq ?_
  refine CS.seq ?_
  refine CS.region ?_
  refine RS.q rfl (QO.move) ?_
  refine RS.q rfl (QO.neq (by rfl) (by rfl)) ?_
  refine RS.nil ?_
  refine thenC_n ?_
  refine CS.condF (by rfl) rfl ?_
  refine CS.skip ?_
  refine thenC_n ?_
  refine CS.seq ?_
  refine CS.region ?_
  refine RS.q rfl (QO.move) ?_
  refine RS.call rfl (by rfl) ok46 (by rfl) (fun w ho => mean0 g n _ (by omega) (by omega) (FS.blk' ho (by repeat (first | exact List.Mem.head _ | refine List.Mem.tail _ ?_)))) ?_
  rintro _ _ ⟨rfl, rfl⟩
  refine RS.q rfl (QO.extract (by rfl) (by rfl)) ?_
  refine RS.q rfl (QO.extract (by rfl) (by rfl)) ?_
  refine RS.q rfl (QO.assign) ?_
  refine RS.q rfl (QO.assign) ?_
  refine RS.nil ?_
  refine thenC_n ?_
  refine CS.ret ?_
  refine retQ.mk (H' := []) (.inr rfl) (RVs.tmp (by rfl) (RVs.tmp (by rfl) RVs.nil)) (List.nil_sublist _) ?_
  exact ⟨rfl, rfl⟩

set_option maxRecDepth 100000 in
theorem len64_0 (W : World) : Fn_ Try.prog 107 #[.int .u64 0] W (fun v H => v = iv 0 ∧ H = []) := by
  refine Fn_.intro Try.func107 rfl rfl (by rfl) ?_
  refine CS.seq ?_
  refine CS.region ?_
  refine RS.q rfl (QO.assign) ?_
  refine RS.nil ?_
  refine thenC_n ?_
  refine CS.seq ?_
  refine CS.seq ?_
  refine CS.region ?_
  refine RS.q rfl (QO.move) ?_
  refine RS.qv rfl (QO.geq (by rfl) (by rfl)) (congrArg Value.bool (show decide ((4294967296 : Int) ≤ 0) = false from rfl)) ?_
  refine RS.nil ?_
  refine thenC_n ?_
  refine CS.condF (by rfl) rfl ?_
  refine CS.skip ?_
  refine thenC_n ?_
  refine CS.seq ?_
  refine CS.seq ?_
  refine CS.region ?_
  refine RS.q rfl (QO.move) ?_
  refine RS.qv rfl (QO.geq (by rfl) (by rfl)) (congrArg Value.bool (show decide ((65536 : Int) ≤ 0) = false from rfl)) ?_
  refine RS.nil ?_
  refine thenC_n ?_
  refine CS.condF (by rfl) rfl ?_
  refine CS.skip ?_
  refine thenC_n ?_
  refine CS.seq ?_
  refine CS.seq ?_
  refine CS.region ?_
  refine RS.q rfl (QO.move) ?_
  refine RS.qv rfl (QO.geq (by rfl) (by rfl)) (congrArg Value.bool (show decide ((256 : Int) ≤ 0) = false from rfl)) ?_
  refine RS.nil ?_
  refine thenC_n ?_
  refine CS.condF (by rfl) rfl ?_
  refine CS.skip ?_
  refine thenC_n ?_
  refine CS.seq ?_
  refine CS.region ?_
  refine RS.q rfl (QO.move) ?_
  refine RS.q rfl (QO.move) ?_
  refine RS.qv rfl (QO.conv_int Try.underlying167 Try.underlying5 (by rfl)) ((show _ = Value.int .u8 0 from rfl)) ?_
  refine RS.qv rfl (QO.indexS (b := 0) Try.underlying9 (by rfl) (by rfl) (by decide) (by rfl)) ((show _ = Value.int .u8 0 from rfl)) ?_
  refine RS.qv rfl (QO.conv_int Try.underlying5 Try.underlying3 (by rfl)) ((show _ = iv 0 from rfl)) ?_
  first | (refine RS.q rfl (QO.add (by rfl) (by rfl) (by omega) (by omega)) ?_) | (refine RS.q rfl (QO.ibin (by rfl) (by rfl) trivial) ?_)
  refine RS.q rfl (QO.assign) ?_
  refine RS.nil ?_
  refine thenC_n ?_
  refine CS.ret ?_
  refine retQ.mk (H' := []) (.inr rfl) (RVs.tmp (by rfl) RVs.nil) (List.nil_sublist _) ?_
  exact ⟨rfl, rfl⟩

set_option maxRecDepth 100000 in
theorem len_0 (W : World) : Fn_ Try.prog 49 #[.int .u64 0] W (fun v H => v = iv 0 ∧ H = []) := by
  refine Fn_.intro Try.func49 rfl rfl (by rfl) ?_
  refine CS.seq ?_
  refine CS.region ?_
  refine RS.q rfl (QO.assign) ?_
  refine RS.nil ?_
  refine thenC_n ?_
  refine CS.seq ?_
  refine CS.condF (by rfl) rfl ?_
  refine CS.skip ?_
  refine thenC_n ?_
  refine CS.seq ?_
  refine CS.region ?_
  refine RS.q rfl (QO.move) ?_
  refine RS.call rfl (by rfl) ok107 (by rfl) (fun w ho => len64_0 _) ?_
  rintro _ _ ⟨rfl, rfl⟩
  refine RS.q rfl (QO.assign) ?_
  refine RS.nil ?_
  refine thenC_n ?_
  refine CS.ret ?_
  refine retQ.mk (H' := []) (.inr rfl) (RVs.tmp (by rfl) RVs.nil) (List.nil_sublist _) ?_
  exact ⟨rfl, rfl⟩

set_option maxHeartbeats 4000000 in
set_option maxRecDepth 100000 in
theorem steps0 (X Y : Int) (a b : Nat) (A : Option Addr) (n c : Nat) (ys : List Nat) (W : World) (hn : ys.length = n) (hA : FS W A ys) (hN : n = 4 * (a * b)) (ha : 1 ≤ a ∧ a ≤ 8) (hb : 1 ≤ b ∧ b ≤ 8) (hX : -1000 ≤ X ∧ X ≤ 1000) (hY : -1000 ≤ Y ∧ Y ≤ 1000) (hlt32 : ∀ x ∈ ys, x < 4294967296) : Fn_ Try.prog 14 #[.agg #[iv X, iv Y, iv (a : Int), iv (b : Int), .slice A n c], .agg #[iv X, iv Y, iv (a : Int), iv (b : Int), .slice A n c]] W (fun v H => ∃ g, v = .tuple #[.slice (some ⟨g, 0, none⟩) 34 34, iv 0] ∧ H = [⟨g, 3, iv (n : Int) :: List.replicate 33 (iv 0)⟩]) := by
  have hab1 := Nat.mul_le_mul ha.1 hb.1
  have hab2 := Nat.mul_le_mul ha.2 hb.2
  have hfr : frErr X Y a b n = 0 := by
    have hcast : ((a * b : Nat) : Int) = (a : Int) * (b : Int) := Int.natCast_mul ..
    have h41 : 4 * (a : Int) * (b : Int) = 4 * ((a : Int) * (b : Int)) := Int.mul_assoc ..
    unfold frErr
    rw [regErr_small ha hb hX hY, if_neg (by simp), if_neg (by omega)]
  refine Fn_.intro Try.func14 rfl rfl (by rfl) ?_
  refine CS.seq ?_
  refine CS.region ?_
  refine RS.box rfl (by rfl) (by rfl) ?_
  intro g2
  refine RS.box rfl (by rfl) (by rfl) ?_
  intro g3
  refine RS.q rfl (QO.assign) ?_
  refine RS.q rfl (QO.assign) ?_
  refine RS.nil ?_
  refine thenC_n ?_
  refine CS.seq ?_
  refine CS.seq ?_
  refine CS.region ?_
  first | (refine RS.q rfl (QO.loadB ty26 (by rfl) (by repeat (first | exact List.Mem.head _ | refine List.Mem.tail _ ?_)) (by rfl)) ?_) | (refine RS.q rfl (QO.loadA ty26 (by rfl) (by repeat (first | exact List.Mem.head _ | refine List.Mem.tail _ ?_)) (by rfl) (by rfl)) ?_) | (refine RS.q rfl (QO.loadOA ty26 (by rfl) (by assumption) (by rfl)) ?_)
  first | (refine RS.q rfl (QO.loadB ty26 (by rfl) (by repeat (first | exact List.Mem.head _ | refine List.Mem.tail _ ?_)) (by rfl)) ?_) | (refine RS.q rfl (QO.loadA ty26 (by rfl) (by repeat (first | exact List.Mem.head _ | refine List.Mem.tail _ ?_)) (by rfl) (by rfl)) ?_) | (refine RS.q rfl (QO.loadOA ty26 (by rfl) (by assumption) (by rfl)) ?_)
  refine RS.call rfl (by rfl) ok47 (by rfl) (fun w ho => checkTwo X Y a b A A n n c c _ hfr hfr) ?_
  rintro _ _ ⟨rfl, rfl⟩
  refine RS.q rfl (QO.assign) ?_
  refine RS.nil ?_
  refine thenC_n ?_
  refine CS.seq ?_
  refine CS.region ?_
  refine RS.q rfl (QO.move) ?_
  refine RS.q rfl (QO.neq (by rfl) (by rfl)) ?_
  refine RS.nil ?_
  refine thenC_n ?_
  refine CS.condF (by rfl) rfl ?_
  refine CS.skip ?_
  refine thenC_n ?_
  refine CS.seq ?_
  refine CS.region ?_
  refine RS.make rfl Try.underlying39 ty3 (by rfl) (by rfl) (by omega) (by omega) (by omega) (by omega) ?_
  intro g19
  refine RS.q rfl (QO.assign) ?_
  refine RS.nil ?_
  refine thenC_n ?_
  refine CS.seq ?_
  refine CS.seq ?_
  refine CS.region ?_
  refine RS.q rfl (QO.fieldAddr fo26_1 (by rfl)) ?_
  first | (refine RS.q rfl (QO.load ty24 (by rfl) (by repeat (first | exact List.Mem.head _ | refine List.Mem.tail _ ?_)) (by rfl)) ?_) | (refine RS.q rfl (QO.loadO ty24 (by rfl) (by assumption)) ?_) | (refine RS.q rfl (QO.load ty24 (by rfl) (by repeat (first | exact List.Mem.head _ | refine List.Mem.tail _ ?_)) (by assumption)) ?_)
  refine RS.q rfl (QO.lenS Try.underlying24 (by rfl)) ?_
  refine RS.q rfl (QO.move) ?_
  refine RS.nil ?_
  refine thenC_n ?_
  refine CS.block ?_
  refine CS.loop (X := Nat) (8 :: 9 :: 10 :: 11 :: 12 :: 23 :: 24 :: 25 :: 26 :: 27 :: 28 :: 29 :: 30 :: 31 :: 32 :: 33 :: 34 :: 35 :: 36 :: 37 :: 38 :: 39 :: 40 :: 41 :: 42 :: 43 :: 44 :: 45 :: 46 :: 47 :: 48 :: 49 :: 50 :: 51 :: 52 :: 53 :: 54 :: 55 :: 56 :: 57 :: 58 :: 59 :: 60 :: 61 :: 62 :: 63 :: 64 :: 65 :: 66 :: 67 :: 68 :: 69 :: 70 :: 71 :: []) (fun k => [(23, iv (k : Int))]) (fun k => [⟨g19, 3, iv (k : Int) :: List.replicate 33 (iv 0)⟩, ⟨g3, 26, [iv X, iv Y, iv (a : Int), iv (b : Int), .slice A n c]⟩, ⟨g2, 26, [iv X, iv Y, iv (a : Int), iv (b : Int), .slice A n c]⟩]) (fun k => k ≤ n) (fun k => n - k) 0 (Nat.zero_le _) ?_ ?_ ?_
  · exact (by repeat (first | exact kn_nil | refine kn_cons (by rfl) ?_))
  · exact (by repeat (first | exact List.Sublist.refl _ | exact List.nil_sublist _ | refine List.Sublist.cons_cons _ ?_ | refine List.Sublist.cons _ ?_ | exact Sbp.refl | exact Sbp.nil | refine Sbp.cons (by repeat (first | exact Rem.head | apply Rem.tail)) ?_ | exact Sbp.app | refine Sbp.skip ?_))
  · intro k gj6 hz
    refine CS.seq ?_
    refine CS.region ?_
    refine RS.q rfl (QO.lss (by rfl) (by rfl)) ?_
    refine RS.nil ?_
    refine thenC_n ?_
    refine CS.seq ?_
    refine CS.cond (by rfl) (fun hb0 => ?_) (fun hb0 => ?_)
    · have hb0p := of_decide_eq_true hb0
      refine CS.skip ?_
      refine thenC_n ?_
      refine CS.seq ?_
      refine CS.block ?_
      refine CS.seq ?_
      refine CS.region ?_
      refine RS.q rfl (QO.move) ?_
      have hlt : k < ys.length := by omega
      obtain ⟨bA, oA, rfl, hcell⟩ := hA (by omega)
      obtain ⟨u, hu, hul⟩ : ∃ u, ys[k]? = some u ∧ u < 4294967296 := ⟨ys[k], List.getElem?_eq_getElem hlt, hlt32 _ (List.getElem_mem _)⟩
      first | (refine RS.q rfl (QO.idx0 Try.underlying24 ty29 (by rfl) (by rfl) (by rfl) (by omega)) ?_) | (refine RS.q rfl (QO.idxn Try.underlying24 ty29 (by rfl) (by rfl) (by rfl) (by omega)) ?_) | (refine RS.q rfl (QO.idx1 Try.underlying24 ty29 (by rfl) (by rfl) (by omega) (by omega)) ?_)
      refine RS.q rfl (QO.loadO ty29 (by rfl) (hcell _ _ hu)) ?_
      refine RS.q rfl (QO.assign) ?_
      refine RS.q rfl (QO.assign) ?_
      refine RS.nil ?_
      refine thenC_n ?_
      refine CS.seq ?_
      refine CS.region ?_
      refine RS.q rfl (QO.fieldAddr fo26_1 (by rfl)) ?_
      first | (refine RS.q rfl (QO.load ty24 (by rfl) (by repeat (first | exact List.Mem.head _ | refine List.Mem.tail _ ?_)) (by rfl)) ?_) | (refine RS.q rfl (QO.loadO ty24 (by rfl) (by assumption)) ?_) | (refine RS.q rfl (QO.load ty24 (by rfl) (by repeat (first | exact List.Mem.head _ | refine List.Mem.tail _ ?_)) (by assumption)) ?_)
      refine RS.q rfl (QO.move) ?_
      first | (refine RS.q rfl (QO.idx0 Try.underlying24 ty29 (by rfl) (by rfl) (by rfl) (by omega)) ?_) | (refine RS.q rfl (QO.idxn Try.underlying24 ty29 (by rfl) (by rfl) (by rfl) (by omega)) ?_) | (refine RS.q rfl (QO.idx1 Try.underlying24 ty29 (by rfl) (by rfl) (by omega) (by omega)) ?_)
      refine RS.q rfl (QO.loadO ty29 (by rfl) (hcell _ _ hu)) ?_
      refine RS.q rfl (QO.assign) ?_
      refine RS.nil ?_
      refine thenC_n ?_
      refine CS.seq ?_
      refine CS.region ?_
      refine RS.q rfl (QO.move) ?_
      refine RS.q rfl (QO.move) ?_
      refine RS.call rfl (by rfl) ok48 (by rfl) (fun w ho => apart0 u _ hul) ?_
      rintro _ _ ⟨rfl, rfl⟩
      refine RS.q rfl (QO.move) ?_
      refine RS.q rfl (QO.extract (by rfl) (by rfl)) ?_
      refine RS.q rfl (QO.extract (by rfl) (by rfl)) ?_
      refine RS.q rfl (QO.assign) ?_
      refine RS.q rfl (QO.assign) ?_
      refine RS.nil ?_
      refine thenC_n ?_
      refine CS.block ?_
      refine CS.seq ?_
      refine CS.region ?_
      refine RS.q rfl (QO.move) ?_
      refine RS.q rfl (QO.assign) ?_
      refine RS.nil ?_
      refine thenC_n ?_
      refine CS.cond (by rfl) (fun hb1 => ?_) (fun hb1 => ?_)
      · refine CS.region ?_
        refine RS.q rfl (QO.move) ?_
        refine RS.q rfl (QO.move) ?_
        refine RS.q rfl (QO.move) ?_
        refine RS.q rfl (QO.neg (by rfl) (by omega) (by omega)) ?_
        refine RS.q rfl (QO.max2 (by rfl) (by rfl)) ?_
        refine RS.qv rfl (QO.conv_int Try.underlying3 Try.underlying105 (by rfl)) ((show _ = Value.int .u64 0 from rfl)) ?_
        refine RS.call rfl (by rfl) ok49 (by rfl) (fun w ho => len_0 _) ?_
        rintro _ _ ⟨rfl, rfl⟩
        first | (refine RS.q rfl (QO.idx0 Try.underlying39 ty3 (by rfl) (by rfl) (by rfl) (by omega)) ?_) | (refine RS.q rfl (QO.idxn Try.underlying39 ty3 (by rfl) (by rfl) (by rfl) (by omega)) ?_) | (refine RS.q rfl (QO.idx1 Try.underlying39 ty3 (by rfl) (by rfl) (by omega) (by omega)) ?_)
        first | (refine RS.q rfl (QO.load ty3 (by rfl) (by repeat (first | exact List.Mem.head _ | refine List.Mem.tail _ ?_)) (by rfl)) ?_) | (refine RS.q rfl (QO.loadO ty3 (by rfl) (by assumption)) ?_) | (refine RS.q rfl (QO.load ty3 (by rfl) (by repeat (first | exact List.Mem.head _ | refine List.Mem.tail _ ?_)) (by assumption)) ?_)
        first | (refine RS.qv rfl (QO.add (by rfl) (by rfl) (by omega) (by omega)) (congrArg iv (show (k : Int) + 1 = ((k + 1 : Nat) : Int) by omega)) ?_) | (refine RS.qv rfl (QO.ibin (by rfl) (by rfl) trivial) (congrArg iv (show (k : Int) + 1 = ((k + 1 : Nat) : Int) by omega)) ?_)
        first | (refine RS.q rfl (QO.idx0 Try.underlying39 ty3 (by rfl) (by rfl) (by rfl) (by omega)) ?_) | (refine RS.q rfl (QO.idxn Try.underlying39 ty3 (by rfl) (by rfl) (by rfl) (by omega)) ?_) | (refine RS.q rfl (QO.idx1 Try.underlying39 ty3 (by rfl) (by rfl) (by omega) (by omega)) ?_)
        refine RS.store1e ty3 rfl (by rfl) (by rfl) (by rfl) (show _ = iv ((k + 1 : Nat) : Int) :: List.replicate 33 (iv 0) from rfl) (by repeat (first | exact Upd.head | apply Upd.tail)) (by first | (simp; done) | (simp; omega) | omega) ?_
        refine RS.nil ?_
        refine blockC_n ?_
        refine blockC_n ?_
        refine thenC_n ?_
        refine CS.region ?_
        first | (refine RS.q rfl (QO.add (by rfl) (by rfl) (by omega) (by omega)) ?_) | (refine RS.q rfl (QO.ibin (by rfl) (by rfl) trivial) ?_)
        refine RS.q rfl (QO.move) ?_
        refine RS.nil ?_
        refine loopQ_n (by intro t ht; repeat (first | with_reducible exact rfl | exact frame_puts ht (frame_mix ht) _ rfl | (refine frame_put rfl ht ?_) | (refine frame_puts ht ?_ _ rfl) | exact frame_mix ht | (refine frame_mix2 rfl ht ?_) | exact rfl)) ?_
        exact ⟨k + 1, by omega, by omega, (by repeat (first | exact kn_nil | refine kn_cons (by rfl) ?_)), (by repeat (first | exact List.Sublist.refl _ | exact List.nil_sublist _ | refine List.Sublist.cons_cons _ ?_ | refine List.Sublist.cons _ ?_ | exact Sbp.refl | exact Sbp.nil | refine Sbp.cons (by repeat (first | exact Rem.head | apply Rem.tail)) ?_ | exact Sbp.app | refine Sbp.skip ?_))⟩
      · refine CS.seq ?_
        refine CS.region ?_
        refine RS.q rfl (QO.move) ?_
        refine RS.q rfl (QO.move) ?_
        refine RS.qv rfl (QO.fcmp32 (by rfl) (by rfl) (by simp)) (congrArg Value.bool ((fneq_self _).trans (Eq.mp (Bool.not_eq_false' _) (by assumption)))) ?_
        refine RS.q rfl (QO.move) ?_
        refine RS.on (dj := 61) rfl (congrArg Value.bool rfl) ?_
        refine RS.q rfl (QO.move) ?_
        refine RS.on (dj := 61) rfl (congrArg Value.bool rfl) ?_
        refine RS.q rfl (QO.move) ?_
        refine RS.on (dj := 61) rfl (congrArg Value.bool rfl) ?_
        refine RS.qv rfl (QO.fcmp32 (by rfl) (by rfl) (by simp)) (congrArg Value.bool ((fneq_self _).trans (Eq.mp (Bool.not_eq_false' _) (by assumption)))) ?_
        refine RS.q rfl (QO.pickT (by rfl) rfl (by rfl)) ?_
        refine RS.q rfl (QO.assign) ?_
        refine RS.nil ?_
        refine thenC_n ?_
        refine CS.condT (by rfl) rfl ?_
        refine CS.region ?_
        refine RS.q rfl (QO.move) ?_
        first | (refine RS.q rfl (QO.idx0 Try.underlying39 ty3 (by rfl) (by rfl) (by rfl) (by omega)) ?_) | (refine RS.q rfl (QO.idxn Try.underlying39 ty3 (by rfl) (by rfl) (by rfl) (by omega)) ?_) | (refine RS.q rfl (QO.idx1 Try.underlying39 ty3 (by rfl) (by rfl) (by omega) (by omega)) ?_)
        first | (refine RS.q rfl (QO.load ty3 (by rfl) (by repeat (first | exact List.Mem.head _ | refine List.Mem.tail _ ?_)) (by rfl)) ?_) | (refine RS.q rfl (QO.loadO ty3 (by rfl) (by assumption)) ?_) | (refine RS.q rfl (QO.load ty3 (by rfl) (by repeat (first | exact List.Mem.head _ | refine List.Mem.tail _ ?_)) (by assumption)) ?_)
        first | (refine RS.qv rfl (QO.add (by rfl) (by rfl) (by omega) (by omega)) (congrArg iv (show (k : Int) + 1 = ((k + 1 : Nat) : Int) by omega)) ?_) | (refine RS.qv rfl (QO.ibin (by rfl) (by rfl) trivial) (congrArg iv (show (k : Int) + 1 = ((k + 1 : Nat) : Int) by omega)) ?_)
        first | (refine RS.q rfl (QO.idx0 Try.underlying39 ty3 (by rfl) (by rfl) (by rfl) (by omega)) ?_) | (refine RS.q rfl (QO.idxn Try.underlying39 ty3 (by rfl) (by rfl) (by rfl) (by omega)) ?_) | (refine RS.q rfl (QO.idx1 Try.underlying39 ty3 (by rfl) (by rfl) (by omega) (by omega)) ?_)
        refine RS.store1e ty3 rfl (by rfl) (by rfl) (by rfl) (show _ = iv ((k + 1 : Nat) : Int) :: List.replicate 33 (iv 0) from rfl) (by repeat (first | exact Upd.head | apply Upd.tail)) (by first | (simp; done) | (simp; omega) | omega) ?_
        refine RS.nil ?_
        refine blockC_n ?_
        refine blockC_n ?_
        refine thenC_n ?_
        refine CS.region ?_
        first | (refine RS.q rfl (QO.add (by rfl) (by rfl) (by omega) (by omega)) ?_) | (refine RS.q rfl (QO.ibin (by rfl) (by rfl) trivial) ?_)
        refine RS.q rfl (QO.move) ?_
        refine RS.nil ?_
        refine loopQ_n (by intro t ht; repeat (first | with_reducible exact rfl | exact frame_puts ht (frame_mix ht) _ rfl | (refine frame_put rfl ht ?_) | (refine frame_puts ht ?_ _ rfl) | exact frame_mix ht | (refine frame_mix2 rfl ht ?_) | exact rfl)) ?_
        exact ⟨k + 1, by omega, by omega, (by repeat (first | exact kn_nil | refine kn_cons (by rfl) ?_)), (by repeat (first | exact List.Sublist.refl _ | exact List.nil_sublist _ | refine List.Sublist.cons_cons _ ?_ | refine List.Sublist.cons _ ?_ | exact Sbp.refl | exact Sbp.nil | refine Sbp.cons (by repeat (first | exact Rem.head | apply Rem.tail)) ?_ | exact Sbp.app | refine Sbp.skip ?_))⟩
    · have hb0p := of_decide_eq_false hb0
      refine CS.exit ?_
      refine thenC_x ?_
      refine loopQ_x ?_
      refine blockC_x ?_
      refine thenC_n ?_
      refine CS.seq ?_
      refine CS.region ?_
      refine RS.q rfl (QO.move) ?_
      refine RS.q rfl (QO.assign) ?_
      refine RS.q rfl (QO.assign) ?_
      refine RS.nil ?_
      refine thenC_n ?_
      refine CS.ret ?_
      refine retQ.mk (H' := [⟨g19, 3, iv (n : Int) :: List.replicate 33 (iv 0)⟩]) (.inr rfl) (RVs.tmp (by rfl) (RVs.tmp (by rfl) RVs.nil)) (by obtain rfl : k = n := (by omega); exact (by repeat (first | exact List.Sublist.refl _ | exact List.nil_sublist _ | refine List.Sublist.cons_cons _ ?_ | refine List.Sublist.cons _ ?_ | exact Sbp.refl | exact Sbp.nil | refine Sbp.cons (by repeat (first | exact Rem.head | apply Rem.tail)) ?_ | exact Sbp.app | refine Sbp.skip ?_))) ?_
      obtain rfl : k = n := by omega
      exact ⟨g19, rfl, rfl⟩

theorem fit2 (x y wi he : Int) (A : Option Addr) (n c : Nat) (xs : List Nat) (W : World) (hn : xs.length = n) (hA : FS W A xs) (hlx : n ≤ maxLen) (hx : ∀ u ∈ xs, u < 4294967296) : Fn_ Try.prog 10 #[.agg #[iv x, iv y, iv wi, iv he, .slice A n c]] W (fun v H =>
    ∃ (g : Nat) (X Y : Int) (a b : Nat) (ys : List Nat), v = .agg #[iv X, iv Y, iv (a : Int), iv (b : Int), .slice (some ⟨g, 0, none⟩) ys.length ys.length] ∧ H = [⟨g, 29, ys.map flt⟩] ∧
      ys.length = 4 * (a * b) ∧ (1 ≤ a ∧ a ≤ 8) ∧ (1 ≤ b ∧ b ≤ 8) ∧ (-1000 ≤ X ∧ X ≤ 1000) ∧ (-1000 ≤ Y ∧ Y ≤ 1000) ∧ a * b ≤ 64 ∧ ∀ u ∈ ys, u < 4294967296) := by
  refine (fit x y wi he A n c xs W hn hA hlx).mono fun v H h => ?_
  obtain ⟨g, rfl, rfl⟩ := h
  have h1 := and7_bd wi
  have h2 := and7_bd he
  have h3 := clamp_bd x
  have h4 := clamp_bd y
  obtain ⟨a, ha⟩ : ∃ a : Nat, 1 + and7 wi = (a : Int) := ⟨(1 + and7 wi).toNat, by omega⟩
  obtain ⟨b, hb⟩ : ∃ b : Nat, 1 + and7 he = (b : Int) := ⟨(1 + and7 he).toNat, by omega⟩
  have h7 := fitN_eq wi he
  have h6 : ((a * b : Nat) : Int) = (a : Int) * (b : Int) := Int.natCast_mul ..
  have h8 : fitN wi he = 4 * (a * b) := by rw [ha, hb] at h7; omega
  have h9 : (fitV xs wi he).length = fitN wi he := fitV_len _ _ _
  rw [ha, hb] at h7
  refine ⟨g, clamp x, clamp y, a, b, fitV xs wi he, by rw [ha, hb, h9], rfl, by rw [h9, h8], by omega, by omega, h3, h4, by omega, fitV_lt hx⟩

set_option maxHeartbeats 4000000 in
set_option maxRecDepth 100000 in
theorem nothingChanged (x y wi he : Int) (A : Option Addr) (n c : Nat) (xs : List Nat) (W : World) (hn : xs.length = n) (hA : FS W A xs) (hlx : n ≤ maxLen) (hx32 : ∀ u ∈ xs, u < 4294967296) : Fn_ Try.prog 3 #[.agg #[iv x, iv y, iv wi, iv he, .slice A n c]] W (fun v H => v = .bool true ∧ H = []) := by
  refine Fn_.intro Try.func3 rfl rfl (by rfl) ?_
  refine CS.seq ?_
  refine CS.region ?_
  refine RS.box rfl (by rfl) (by rfl) ?_
  intro g1
  refine RS.q rfl (QO.assign) ?_
  refine RS.nil ?_
  refine thenC_n ?_
  refine CS.seq ?_
  refine CS.seq ?_
  refine CS.region ?_
  refine RS.call rfl (by rfl) ok9 (by rfl) (fun w ho => landed _) ?_
  rintro _ _ ⟨rfl, rfl⟩
  refine RS.q rfl (QO.not (by rfl)) ?_
  refine RS.nil ?_
  refine thenC_n ?_
  refine CS.condF (by rfl) rfl ?_
  refine CS.skip ?_
  refine thenC_n ?_
  refine CS.seq ?_
  refine CS.region ?_
  first | (refine RS.q rfl (QO.loadB ty26 (by rfl) (by repeat (first | exact List.Mem.head _ | refine List.Mem.tail _ ?_)) (by rfl)) ?_) | (refine RS.q rfl (QO.loadA ty26 (by rfl) (by repeat (first | exact List.Mem.head _ | refine List.Mem.tail _ ?_)) (by rfl) (by rfl)) ?_) | (refine RS.q rfl (QO.loadOA ty26 (by rfl) (by assumption) (by rfl)) ?_)
  refine RS.call rfl (by rfl) ok10 (by rfl) (fun w ho => fit2 x y wi he A n c xs w hn (hA.own ho) hlx hx32) ?_
  intro v16 H16 h16
  obtain ⟨gf, X, Y, a, b, ys, rfl, rfl, hys, ha, hb, hX, hY, hab, h32⟩ := h16
  first | refine RS.storeB ty26 (by rfl) (by rfl) (by rfl) (by rfl) (by rfl) (by repeat (first | exact Upd.head | apply Upd.tail)) (by rfl) ?_ | refine RS.storeP ty26 (by rfl) (by rfl) (by rfl) (by rfl) (by rfl) (by repeat (first | exact Upd.head | apply Upd.tail)) (by rfl) ?_
  refine RS.nil ?_
  refine thenC_n ?_
  refine CS.seq ?_
  refine CS.region ?_
  first | (refine RS.q rfl (QO.loadB ty26 (by rfl) (by repeat (first | exact List.Mem.head _ | refine List.Mem.tail _ ?_)) (by rfl)) ?_) | (refine RS.q rfl (QO.loadA ty26 (by rfl) (by repeat (first | exact List.Mem.head _ | refine List.Mem.tail _ ?_)) (by rfl) (by rfl)) ?_) | (refine RS.q rfl (QO.loadOA ty26 (by rfl) (by assumption) (by rfl)) ?_)
  first | (refine RS.q rfl (QO.loadB ty26 (by rfl) (by repeat (first | exact List.Mem.head _ | refine List.Mem.tail _ ?_)) (by rfl)) ?_) | (refine RS.q rfl (QO.loadA ty26 (by rfl) (by repeat (first | exact List.Mem.head _ | refine List.Mem.tail _ ?_)) (by rfl) (by rfl)) ?_) | (refine RS.q rfl (QO.loadOA ty26 (by rfl) (by assumption) (by rfl)) ?_)
  refine RS.call rfl (by rfl) ok11 (by rfl) (fun w ho => peak0 X Y a b _ _ _ ys _ rfl (FS.blk' ho (by repeat (first | exact List.Mem.head _ | refine List.Mem.tail _ ?_))) hys ha hb hX hY) ?_
  rintro _ _ ⟨px_, py_, rfl, rfl⟩
  refine RS.q rfl (QO.move) ?_
  refine RS.q rfl (QO.extract (by rfl) (by rfl)) ?_
  refine RS.q rfl (QO.extract (by rfl) (by rfl)) ?_
  refine RS.q rfl (QO.extract (by rfl) (by rfl)) ?_
  refine RS.alloc rfl ty31 ?_
  intro g4
  refine RS.q rfl (QO.assign) ?_
  first | refine RS.storeB ty31 (by rfl) (by rfl) (by rfl) (by rfl) (by rfl) (by repeat (first | exact Upd.head | apply Upd.tail)) (by rfl) ?_ | refine RS.storeP ty31 (by rfl) (by rfl) (by rfl) (by rfl) (by rfl) (by repeat (first | exact Upd.head | apply Upd.tail)) (by rfl) ?_
  refine RS.q rfl (QO.assign) ?_
  refine RS.nil ?_
  refine thenC_n ?_
  refine CS.seq ?_
  refine CS.region ?_
  first | (refine RS.q rfl (QO.loadB ty26 (by rfl) (by repeat (first | exact List.Mem.head _ | refine List.Mem.tail _ ?_)) (by rfl)) ?_) | (refine RS.q rfl (QO.loadA ty26 (by rfl) (by repeat (first | exact List.Mem.head _ | refine List.Mem.tail _ ?_)) (by rfl) (by rfl)) ?_) | (refine RS.q rfl (QO.loadOA ty26 (by rfl) (by assumption) (by rfl)) ?_)
  first | (refine RS.q rfl (QO.loadB ty26 (by rfl) (by repeat (first | exact List.Mem.head _ | refine List.Mem.tail _ ?_)) (by rfl)) ?_) | (refine RS.q rfl (QO.loadA ty26 (by rfl) (by repeat (first | exact List.Mem.head _ | refine List.Mem.tail _ ?_)) (by rfl) (by rfl)) ?_) | (refine RS.q rfl (QO.loadOA ty26 (by rfl) (by assumption) (by rfl)) ?_)
  refine RS.call rfl (by rfl) ok12 (by rfl) (fun w ho => smean0 X Y a b _ _ _ ys _ rfl (FS.blk' ho (by repeat (first | exact List.Mem.head _ | refine List.Mem.tail _ ?_))) hys ha hb hX hY) ?_
  rintro _ _ ⟨rfl, rfl⟩
  refine RS.q rfl (QO.move) ?_
  refine RS.q rfl (QO.extract (by rfl) (by rfl)) ?_
  refine RS.q rfl (QO.extract (by rfl) (by rfl)) ?_
  refine RS.q rfl (QO.assign) ?_
  refine RS.q rfl (QO.assign) ?_
  refine RS.nil ?_
  refine thenC_n ?_
  refine CS.seq ?_
  refine CS.region ?_
  first | (refine RS.q rfl (QO.loadB ty26 (by rfl) (by repeat (first | exact List.Mem.head _ | refine List.Mem.tail _ ?_)) (by rfl)) ?_) | (refine RS.q rfl (QO.loadA ty26 (by rfl) (by repeat (first | exact List.Mem.head _ | refine List.Mem.tail _ ?_)) (by rfl) (by rfl)) ?_) | (refine RS.q rfl (QO.loadOA ty26 (by rfl) (by assumption) (by rfl)) ?_)
  first | (refine RS.q rfl (QO.loadB ty26 (by rfl) (by repeat (first | exact List.Mem.head _ | refine List.Mem.tail _ ?_)) (by rfl)) ?_) | (refine RS.q rfl (QO.loadA ty26 (by rfl) (by repeat (first | exact List.Mem.head _ | refine List.Mem.tail _ ?_)) (by rfl) (by rfl)) ?_) | (refine RS.q rfl (QO.loadOA ty26 (by rfl) (by assumption) (by rfl)) ?_)
  refine RS.call rfl (by rfl) ok13 (by rfl) (fun w ho => changed2 X Y a b _ _ _ _ _ _ ys ys _ rfl rfl (FS.blk' ho (by repeat (first | exact List.Mem.head _ | refine List.Mem.tail _ ?_))) (FS.blk' ho (by repeat (first | exact List.Mem.head _ | refine List.Mem.tail _ ?_))) hys hys ha hb hX hY hab) ?_
  intro v33 H33 h33
  obtain ⟨qx, qy, qw, qh, rfl, rfl, _, _, _, _, _, hq⟩ := h33
  obtain ⟨rfl, rfl, rfl, rfl⟩ := hq (cnt_self ys _)
  refine RS.q rfl (QO.move) ?_
  refine RS.q rfl (QO.extract (by rfl) (by rfl)) ?_
  refine RS.qv rfl (QO.extract (by rfl) (by rfl)) (congrArg iv (congrArg Nat.cast (cnt_self ys (a * b)))) ?_
  refine RS.q rfl (QO.extract (by rfl) (by rfl)) ?_
  refine RS.alloc rfl ty23 ?_
  intro g8
  first | refine RS.storeB ty23 (by rfl) (by rfl) (by rfl) (by rfl) (by rfl) (by repeat (first | exact Upd.head | apply Upd.tail)) (by rfl) ?_ | refine RS.storeP ty23 (by rfl) (by rfl) (by rfl) (by rfl) (by rfl) (by repeat (first | exact Upd.head | apply Upd.tail)) (by rfl) ?_
  refine RS.q rfl (QO.assign) ?_
  refine RS.q rfl (QO.assign) ?_
  refine RS.nil ?_
  refine thenC_n ?_
  refine CS.seq ?_
  refine CS.region ?_
  first | (refine RS.q rfl (QO.loadB ty26 (by rfl) (by repeat (first | exact List.Mem.head _ | refine List.Mem.tail _ ?_)) (by rfl)) ?_) | (refine RS.q rfl (QO.loadA ty26 (by rfl) (by repeat (first | exact List.Mem.head _ | refine List.Mem.tail _ ?_)) (by rfl) (by rfl)) ?_) | (refine RS.q rfl (QO.loadOA ty26 (by rfl) (by assumption) (by rfl)) ?_)
  first | (refine RS.q rfl (QO.loadB ty26 (by rfl) (by repeat (first | exact List.Mem.head _ | refine List.Mem.tail _ ?_)) (by rfl)) ?_) | (refine RS.q rfl (QO.loadA ty26 (by rfl) (by repeat (first | exact List.Mem.head _ | refine List.Mem.tail _ ?_)) (by rfl) (by rfl)) ?_) | (refine RS.q rfl (QO.loadOA ty26 (by rfl) (by assumption) (by rfl)) ?_)
  refine RS.call rfl (by rfl) ok14 (by rfl) (fun w ho => steps0 X Y a b _ _ _ ys _ rfl (FS.blk' ho (by repeat (first | exact List.Mem.head _ | refine List.Mem.tail _ ?_))) hys ha hb hX hY h32) ?_
  rintro _ _ ⟨gs, rfl, rfl⟩
  refine RS.q rfl (QO.move) ?_
  refine RS.q rfl (QO.extract (by rfl) (by rfl)) ?_
  refine RS.q rfl (QO.extract (by rfl) (by rfl)) ?_
  refine RS.q rfl (QO.assign) ?_
  refine RS.q rfl (QO.assign) ?_
  refine RS.nil ?_
  refine thenC_n ?_
  refine CS.seq ?_
  refine CS.draw 41 rfl (by kernel_rfl) (by kernel_rfl) ?_
  refine RT.take (i := 0) rfl (by kernel_rfl) rfl (QO.move) ?_
  refine RT.take (i := 1) rfl (by kernel_rfl) rfl (QO.eql (by rfl) (by rfl)) ?_
  refine RT.take (i := 2) rfl (by kernel_rfl) rfl (QO.move) ?_
  refine RT.takeOn (i := 3) (dj := 45) rfl rfl (congrArg Value.bool rfl) (by kernel_rfl) rfl (QO.move) ?_
  refine RT.takeOnv (i := 4) (dj := 45) rfl rfl (congrArg Value.bool rfl) (by kernel_rfl) rfl (QO.fcmp32 (by rfl) (by rfl) (by simp)) (congrArg Value.bool zero_zero) ?_
  refine RT.take (i := 5) rfl (by kernel_rfl) rfl (QO.pickT (by rfl) rfl (by rfl)) ?_
  refine RT.take (i := 6) rfl (by kernel_rfl) rfl (QO.move) ?_
  refine RT.takeOn (i := 7) (dj := 49) rfl rfl (congrArg Value.bool rfl) (by kernel_rfl) rfl (QO.move) ?_
  refine RT.takeOn (i := 8) (dj := 49) rfl rfl (congrArg Value.bool rfl) (by kernel_rfl) rfl (QO.eql (by rfl) (by rfl)) ?_
  refine RT.take (i := 9) rfl (by kernel_rfl) rfl (QO.pickT (by rfl) rfl (by rfl)) ?_
  refine RT.take (i := 10) rfl (by kernel_rfl) rfl (QO.move) ?_
  refine RT.takeOn (i := 11) (dj := 53) rfl rfl (congrArg Value.bool rfl) (by kernel_rfl) rfl (QO.move) ?_
  refine RT.takeOnv (i := 12) (dj := 53) rfl rfl (congrArg Value.bool rfl) (by kernel_rfl) rfl (QO.fcmp32 (by rfl) (by rfl) (by simp)) (congrArg Value.bool zero_zero) ?_
  refine RT.take (i := 13) rfl (by kernel_rfl) rfl (QO.pickT (by rfl) rfl (by rfl)) ?_
  refine RT.take (i := 14) rfl (by kernel_rfl) rfl (QO.move) ?_
  refine RT.takeOn (i := 15) (dj := 57) rfl rfl (congrArg Value.bool rfl) (by kernel_rfl) rfl (QO.move) ?_
  refine RT.takeOn (i := 16) (dj := 57) rfl rfl (congrArg Value.bool rfl) (by kernel_rfl) rfl (QO.eql (by rfl) (by rfl)) ?_
  refine RT.take (i := 17) rfl (by kernel_rfl) rfl (QO.pickT (by rfl) rfl (by rfl)) ?_
  refine RT.take (i := 18) rfl (by kernel_rfl) rfl (QO.move) ?_
  refine RT.takeOn (i := 19) (dj := 61) rfl rfl (congrArg Value.bool rfl) (by kernel_rfl) rfl (QO.move) ?_
  refine RT.takeOn (i := 20) (dj := 61) rfl rfl (congrArg Value.bool rfl) (by kernel_rfl) rfl (QO.eql (by rfl) (by rfl)) ?_
  refine RT.take (i := 21) rfl (by kernel_rfl) rfl (QO.pickT (by rfl) rfl (by rfl)) ?_
  refine RT.take (i := 22) rfl (by kernel_rfl) rfl (QO.move) ?_
  first | (refine RT.takeOn (i := 23) (dj := 65) rfl rfl (congrArg Value.bool rfl) (by kernel_rfl) rfl (QO.loadB ty23 (by rfl) (by repeat (first | exact List.Mem.head _ | refine List.Mem.tail _ ?_)) (by rfl)) ?_) | (refine RT.takeOn (i := 23) (dj := 65) rfl rfl (congrArg Value.bool rfl) (by kernel_rfl) rfl (QO.loadA ty23 (by rfl) (by repeat (first | exact List.Mem.head _ | refine List.Mem.tail _ ?_)) (by rfl) (by rfl)) ?_) | (refine RT.takeOn (i := 23) (dj := 65) rfl rfl (congrArg Value.bool rfl) (by kernel_rfl) rfl (QO.loadOA ty23 (by rfl) (by assumption) (by rfl)) ?_)
  refine RT.takeOn (i := 24) (dj := 65) rfl rfl (congrArg Value.bool rfl) (by kernel_rfl) rfl (QO.build ty23 pl23 (by rfl)) ?_
  first | (refine RT.takeOn (i := 25) (dj := 65) rfl rfl (congrArg Value.bool rfl) (by kernel_rfl) rfl (QO.seql4 eqt23 (by rfl) (by rfl)) ?_) | (refine RT.takeOn (i := 25) (dj := 65) rfl rfl (congrArg Value.bool rfl) (by kernel_rfl) rfl (QO.seql eqt23 (by decide) (by rfl) (by rfl) (by rfl) (by rfl)) ?_)
  refine RT.take (i := 26) rfl (by kernel_rfl) rfl (QO.pickT (by rfl) rfl (by rfl)) ?_
  refine RT.take (i := 27) rfl (by kernel_rfl) rfl (QO.move) ?_
  refine RT.takeOn (i := 28) (dj := 70) rfl rfl (congrArg Value.bool rfl) (by kernel_rfl) rfl (QO.move) ?_
  refine RT.takeOn (i := 29) (dj := 70) rfl rfl (congrArg Value.bool rfl) (by kernel_rfl) rfl (QO.eql (by rfl) (by rfl)) ?_
  refine RT.take (i := 30) rfl (by kernel_rfl) rfl (QO.pickT (by rfl) rfl (by rfl)) ?_
  refine RT.take (i := 31) rfl (by kernel_rfl) rfl (QO.move) ?_
  refine RT.takeOn (i := 32) (dj := 74) rfl rfl (congrArg Value.bool rfl) (by kernel_rfl) rfl (QO.move) ?_
  first | (refine RT.takeOn (i := 33) (dj := 74) rfl rfl (congrArg Value.bool rfl) (by kernel_rfl) rfl (QO.idx0 Try.underlying39 ty3 (by rfl) (by rfl) (by rfl) (by omega)) ?_) | (refine RT.takeOn (i := 33) (dj := 74) rfl rfl (congrArg Value.bool rfl) (by kernel_rfl) rfl (QO.idxn Try.underlying39 ty3 (by rfl) (by rfl) (by rfl) (by omega)) ?_) | (refine RT.takeOn (i := 33) (dj := 74) rfl rfl (congrArg Value.bool rfl) (by kernel_rfl) rfl (QO.idx1 Try.underlying39 ty3 (by rfl) (by rfl) (by omega) (by omega)) ?_)
  first | (refine RT.takeOn (i := 34) (dj := 74) rfl rfl (congrArg Value.bool rfl) (by kernel_rfl) rfl (QO.load ty3 (by rfl) (by repeat (first | exact List.Mem.head _ | refine List.Mem.tail _ ?_)) (by rfl)) ?_) | (refine RT.takeOn (i := 34) (dj := 74) rfl rfl (congrArg Value.bool rfl) (by kernel_rfl) rfl (QO.loadO ty3 (by rfl) (by assumption)) ?_) | (refine RT.takeOn (i := 34) (dj := 74) rfl rfl (congrArg Value.bool rfl) (by kernel_rfl) rfl (QO.load ty3 (by rfl) (by repeat (first | exact List.Mem.head _ | refine List.Mem.tail _ ?_)) (by assumption)) ?_)
  refine RT.takeOn (i := 35) (dj := 74) rfl rfl (congrArg Value.bool rfl) (by kernel_rfl) rfl (QO.fieldAddr fo26_1 (by rfl)) ?_
  first | (refine RT.takeOn (i := 36) (dj := 74) rfl rfl (congrArg Value.bool rfl) (by kernel_rfl) rfl (QO.load ty24 (by rfl) (by repeat (first | exact List.Mem.head _ | refine List.Mem.tail _ ?_)) (by rfl)) ?_) | (refine RT.takeOn (i := 36) (dj := 74) rfl rfl (congrArg Value.bool rfl) (by kernel_rfl) rfl (QO.loadO ty24 (by rfl) (by assumption)) ?_) | (refine RT.takeOn (i := 36) (dj := 74) rfl rfl (congrArg Value.bool rfl) (by kernel_rfl) rfl (QO.load ty24 (by rfl) (by repeat (first | exact List.Mem.head _ | refine List.Mem.tail _ ?_)) (by assumption)) ?_)
  refine RT.takeOn (i := 37) (dj := 74) rfl rfl (congrArg Value.bool rfl) (by kernel_rfl) rfl (QO.lenS Try.underlying24 (by rfl)) ?_
  refine RT.takeOnv (i := 38) (dj := 74) rfl rfl (congrArg Value.bool rfl) (by kernel_rfl) rfl (QO.eql (by rfl) (by rfl)) (congrArg Value.bool (beq_self_eq_true _)) ?_
  refine RT.take (i := 39) rfl (by kernel_rfl) rfl (QO.pickT (by rfl) rfl (by rfl)) ?_
  refine RT.take (i := 40) rfl (by kernel_rfl) rfl (QO.assign) ?_
  refine RT.done (by kernel_rfl) ?_
  refine thenC_n ?_
  refine CS.ret ?_
  refine retQ.mk (H' := []) (.inr rfl) (RVs.tmp (by rfl) RVs.nil) (List.nil_sublist _) ?_
  exact ⟨rfl, rfl⟩

end Go.Proofs.Ytapcgokcfmklbaa
