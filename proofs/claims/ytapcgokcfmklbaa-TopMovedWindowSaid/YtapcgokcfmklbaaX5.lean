/-
  Part 5 of what the proof leans on (H1, H2, Whl6). Conditions: as each theorem says.
-/
import Derived.Test.YtapcgokcfmklbaaX4
namespace Go.Proofs.Ytapcgokcfmklbaa
open Go Go.Proofs Go.RowKit

theorem ok152 : callOK Try.prog 152 = true := by kernel_rfl
theorem ok153 : callOK Try.prog 153 = true := by kernel_rfl
theorem ok154 : callOK Try.prog 154 = true := by kernel_rfl

theorem ext168 (n : Nat) (w : World) : (callFunc 168 [Value.float .f64 n].toArray).run Try.prog w = .ok (.value (.int .u64 n)) w := by kernel_rfl
theorem ext167 (n : Int) (w : World) : (callFunc 167 [Value.int .u64 n].toArray).run Try.prog w = .ok (.value (.float .f64 n.toNat)) w := by kernel_rfl
theorem sqrt_run {x r : Nat} (h : Ieee.double.sqrt x = some r) (P : Program) (w : World) : (Extern.MathSqrt.sqrt #[.float .f64 x]).run P w = .ok (.float .f64 r) w := by
  have h1 : FloatKind.f64.format.sqrt x = some r := h
  obtain ⟨M, hM⟩ : ∃ M : Sem Value, Extern.MathSqrt.sqrt #[.float .f64 x] = (match FloatKind.f64.format.sqrt x with
    | some r => pure (.float .f64 r)
    | none => M) := ⟨_, rfl⟩
  rw [hM, h1]
  rfl
theorem sqX {x r : Nat} (h : Ieee.double.sqrt x = some r) (w : World) : (callFunc 169 [Value.float .f64 x].toArray).run Try.prog w = .ok (.value (.float .f64 r)) w := by
  have h1 := sqrt_run h Try.prog w
  have e : (callFunc 169 [Value.float .f64 x].toArray).run Try.prog w = (do let v ← Extern.MathSqrt.sqrt #[.float .f64 x]; pure (Next.value v) : Sem Next).run Try.prog w := by kernel_rfl
  rw [e, Sem.run_bind, h1]; rfl

set_option maxRecDepth 100000 in
theorem mabs (d : Nat) (W : World) : Fn_ Try.prog 152 #[.float .f64 d] W (fun v H => v = .float .f64 (absN d) ∧ H = []) := by
  refine Fn_.intro Try.func152 rfl rfl (by rfl) ?_
  refine CS.seq ?_
  refine CS.region ?_
  refine RS.q rfl (QO.assign) ?_
  refine RS.nil ?_
  refine thenC_n ?_
  refine CS.seq ?_
  refine CS.region ?_
  refine RS.q rfl (QO.move) ?_
  refine RS.q rfl (QO.ext (by rfl) (ext168 _)) ?_
  refine RS.q rfl (QO.ibin (by rfl) (by rfl) trivial) ?_
  refine RS.q rfl (QO.ext (by rfl) (ext167 _)) ?_
  refine RS.q rfl (QO.assign) ?_
  refine RS.nil ?_
  refine thenC_n ?_
  refine CS.ret ?_
  refine retQ.mk (H' := []) (.inr rfl) (RVs.tmp (by rfl) RVs.nil) (List.nil_sublist _) ?_
  exact ⟨rfl, rfl⟩

set_option maxRecDepth 100000 in
theorem abs_ (u s : Nat) (W : World) (h : absF u = some s) : Fn_ Try.prog 133 #[flt u] W (fun v H => v = flt (cl s) ∧ H = []) := by
  obtain ⟨d, hd1, hd2⟩ := absF_some h
  refine Fn_.intro Try.func133 rfl rfl (by rfl) ?_
  refine CS.seq ?_
  refine CS.region ?_
  refine RS.q rfl (QO.assign) ?_
  refine RS.nil ?_
  refine thenC_n ?_
  refine CS.seq ?_
  refine CS.region ?_
  refine RS.q rfl (QO.move) ?_
  refine RS.q rfl (QO.conv_ff (s := .f32) (k := .f64) (by rw [Try.underlying29]; rfl) Try.underlying181 (by rfl) hd1) ?_
  refine RS.call rfl (by rfl) ok152 (by rfl) (fun w ho => mabs d _) ?_
  rintro _ _ ⟨rfl, rfl⟩
  refine RS.q rfl (QO.conv_ff (s := .f64) (k := .f32) (by rw [Try.underlying181]; rfl) Try.underlying29 (by rfl) hd2) ?_
  refine RS.call rfl (by rfl) ok57 (by rfl) (fun w ho => clean _ _) ?_
  rintro _ _ ⟨rfl, rfl⟩
  refine RS.q rfl (QO.assign) ?_
  refine RS.nil ?_
  refine thenC_n ?_
  refine CS.ret ?_
  refine retQ.mk (H' := []) (.inr rfl) (RVs.tmp (by rfl) RVs.nil) (List.nil_sublist _) ?_
  exact ⟨rfl, rfl⟩

theorem absW (k : Int) (W : World) (hk : k.natAbs ≤ 16777215) : Fn_ Try.prog 133 #[flt (cvF k)] W (fun v H => v = flt (cvF (k.natAbs : Int)) ∧ H = []) := by
  have h := abs_ (cvF k) (cvF (k.natAbs : Int)) W (abs_whole hk)
  rw [cl_num (fb_num (cv_fb (n := (k.natAbs : Int)) (by omega)))] at h
  exact h

set_option maxRecDepth 100000 in
theorem msqrt (d r : Nat) (W : World) (h : Ieee.double.sqrt d = some r) : Fn_ Try.prog 154 #[.float .f64 d] W (fun v H => v = .float .f64 r ∧ H = []) := by
  refine Fn_.intro Try.func154 rfl rfl (by rfl) ?_
  refine CS.seq ?_
  refine CS.region ?_
  refine RS.q rfl (QO.assign) ?_
  refine RS.nil ?_
  refine thenC_n ?_
  refine CS.seq ?_
  refine CS.region ?_
  refine RS.q rfl (QO.move) ?_
  refine RS.q rfl (QO.ext (by rfl) (fun w => sqX h w)) ?_
  refine RS.q rfl (QO.assign) ?_
  refine RS.nil ?_
  refine thenC_n ?_
  refine CS.ret ?_
  refine retQ.mk (H' := []) (.inr rfl) (RVs.tmp (by rfl) RVs.nil) (List.nil_sublist _) ?_
  exact ⟨rfl, rfl⟩

set_option maxRecDepth 100000 in
theorem root1 (s t : Nat) (W : World) (h : rootF s = some t) : Fn_ Try.prog 135 #[flt s] W (fun v H => v = flt (cl t) ∧ H = []) := by
  obtain ⟨d, r, hd1, hd2, hd3⟩ := rootF_some h
  refine Fn_.intro Try.func135 rfl rfl (by rfl) ?_
  refine CS.seq ?_
  refine CS.region ?_
  refine RS.q rfl (QO.assign) ?_
  refine RS.nil ?_
  refine thenC_n ?_
  refine CS.seq ?_
  refine CS.region ?_
  refine RS.q rfl (QO.move) ?_
  refine RS.q rfl (QO.conv_ff (s := .f32) (k := .f64) (by rw [Try.underlying29]; rfl) Try.underlying181 (by rfl) hd1) ?_
  refine RS.call rfl (by rfl) ok154 (by rfl) (fun w ho => msqrt d r _ hd2) ?_
  rintro _ _ ⟨rfl, rfl⟩
  refine RS.q rfl (QO.conv_ff (s := .f64) (k := .f32) (by rw [Try.underlying181]; rfl) Try.underlying29 (by rfl) hd3) ?_
  refine RS.call rfl (by rfl) ok57 (by rfl) (fun w ho => clean _ _) ?_
  rintro _ _ ⟨rfl, rfl⟩
  refine RS.q rfl (QO.assign) ?_
  refine RS.nil ?_
  refine thenC_n ?_
  refine CS.ret ?_
  refine retQ.mk (H' := []) (.inr rfl) (RVs.tmp (by rfl) RVs.nil) (List.nil_sublist _) ?_
  exact ⟨rfl, rfl⟩

theorem root_ (s S : Nat) (W : World) (h : cl s = S) (hS : S ≤ 2139095040) : Fn_ Try.prog 135 #[flt s] W (fun v H => v = flt (rootV S) ∧ H = []) := by
  obtain rfl := root_eq h hS
  obtain ⟨t, ht⟩ := Option.isSome_iff_exists.1 (root_there hS)
  have e : rootV s = cl t := by unfold rootV; rw [ht]; rfl
  rw [e]; exact root1 s t W ht

set_option maxRecDepth 100000 in
theorem fade_ (d soft : Nat) (W : World) : Fn_ Try.prog 153 #[flt d, flt soft] W (fun v H => ∃ e, v = flt e ∧ cl e = fadeV d soft ∧ H = []) := by
  refine Fn_.intro Try.func153 rfl rfl (by rfl) ?_
  refine CS.seq ?_
  refine CS.region ?_
  refine RS.q rfl (QO.assign) ?_
  refine RS.nil ?_
  refine thenC_n ?_
  refine CS.seq ?_
  refine CS.seq ?_
  refine CS.region ?_
  refine RS.q rfl (QO.move) ?_
  refine RS.q rfl (QO.move) ?_
  refine RS.q rfl (QO.fcmp32 (by rfl) (by rfl) (by simp)) ?_
  refine RS.nil ?_
  refine thenC_n ?_
  refine CS.cond (by rfl) (fun hb0 => ?_) (fun hb0 => ?_)
  · refine CS.seq ?_
    refine CS.region ?_
    refine RS.q rfl (QO.move) ?_
    refine RS.q rfl (QO.move) ?_
    refine RS.farith rfl (by rfl) (by rfl) (by simp) ?_
    intro r10 hr10
    refine RS.call rfl (by rfl) ok71 (by rfl) (fun w ho => smooth_ _ _) ?_
    rintro _ _ ⟨rfl, rfl⟩
    refine RS.farith rfl (by rfl) (by rfl) (by simp) ?_
    intro r12 hr12
    refine RS.q rfl (QO.assign) ?_
    refine RS.nil ?_
    refine thenC_n ?_
    refine CS.ret ?_
    refine thenC_r ?_
    refine retQ.mk (H' := []) (.inr rfl) (RVs.tmp (by rfl) RVs.nil) (List.nil_sublist _) ?_
    first | exact ⟨_, rfl, fade_1 (by assumption) hr10 hr12, rfl⟩ | exact ⟨_, rfl, fade_2 (by assumption), rfl⟩
  · refine CS.skip ?_
    refine thenC_n ?_
    refine CS.seq ?_
    refine CS.region ?_
    refine RS.q rfl (QO.assign) ?_
    refine RS.nil ?_
    refine thenC_n ?_
    refine CS.ret ?_
    refine retQ.mk (H' := []) (.inr rfl) (RVs.tmp (by rfl) RVs.nil) (List.nil_sublist _) ?_
    first | exact ⟨_, rfl, fade_1 (by assumption) hr10 hr12, rfl⟩ | exact ⟨_, rfl, fade_2 (by assumption), rfl⟩

set_option maxRecDepth 100000 in
theorem edge_ (d soft : Nat) (W : World) : Fn_ Try.prog 134 #[flt d, flt soft] W (fun v H => ∃ e, v = flt e ∧ cl e = edgeV d soft ∧ H = []) := by
  refine Fn_.intro Try.func134 rfl rfl (by rfl) ?_
  refine CS.seq ?_
  refine CS.region ?_
  refine RS.q rfl (QO.assign) ?_
  refine RS.nil ?_
  refine thenC_n ?_
  refine CS.seq ?_
  refine CS.seq ?_
  refine CS.region ?_
  refine RS.q rfl (QO.move) ?_
  refine RS.q rfl (QO.fcmp32 (by rfl) (by rfl) (by simp)) ?_
  refine RS.nil ?_
  refine thenC_n ?_
  refine CS.cond (by rfl) (fun hb0 => ?_) (fun hb0 => ?_)
  · refine CS.seq ?_
    refine CS.region ?_
    refine RS.q rfl (QO.move) ?_
    refine RS.q rfl (QO.move) ?_
    refine RS.call rfl (by rfl) ok153 (by rfl) (fun w ho => fade_ _ _ _) ?_
    rintro _ _ ⟨e9, rfl, he9, rfl⟩
    refine RS.q rfl (QO.assign) ?_
    refine RS.nil ?_
    refine thenC_n ?_
    refine CS.ret ?_
    refine thenC_r ?_
    refine retQ.mk (H' := []) (.inr rfl) (RVs.tmp (by rfl) RVs.nil) (List.nil_sublist _) ?_
    first | exact ⟨_, rfl, edge_1 (by assumption) he9, rfl⟩ | exact ⟨_, rfl, edge_2 (by assumption), rfl⟩
  · refine CS.skip ?_
    refine thenC_n ?_
    refine CS.seq ?_
    refine CS.region ?_
    refine RS.q rfl (QO.assign) ?_
    refine RS.nil ?_
    refine thenC_n ?_
    refine CS.ret ?_
    refine retQ.mk (H' := []) (.inr rfl) (RVs.tmp (by rfl) RVs.nil) (List.nil_sublist _) ?_
    first | exact ⟨_, rfl, edge_1 (by assumption) he9, rfl⟩ | exact ⟨_, rfl, edge_2 (by assumption), rfl⟩

set_option maxHeartbeats 4000000 in
set_option maxRecDepth 100000 in
theorem crossings_ (A : Option Addr) (c : Nat) (l : List (Int × Int)) (x y : Int) (W : World) (hA : PS W A l) (hm : l.length ≤ 500) (hb : ∀ i, i < l.length → (l.getD i (0, 0)).1.natAbs ≤ 2097152 ∧ (l.getD i (0, 0)).2.natAbs ≤ 2097152) (hx : x.natAbs ≤ 4194304) (hy : y.natAbs ≤ 4194304) : Fn_ Try.prog 136 #[.slice A l.length c, iv x, iv y] W (fun v H => v = iv ((crN l x y l.length : Nat) : Int) ∧ H = []) := by
  refine Fn_.intro Try.func136 rfl rfl (by rfl) ?_
  refine CS.seq ?_
  refine CS.region ?_
  refine RS.q rfl (QO.assign) ?_
  refine RS.nil ?_
  refine thenC_n ?_
  refine CS.seq ?_
  refine CS.region ?_
  refine RS.q rfl (QO.assign) ?_
  refine RS.nil ?_
  refine thenC_n ?_
  refine CS.seq ?_
  refine CS.seq ?_
  refine CS.region ?_
  refine RS.q rfl (QO.move) ?_
  refine RS.q rfl (QO.lenS Try.underlying59 (by rfl)) ?_
  refine RS.q rfl (QO.move) ?_
  refine RS.nil ?_
  refine thenC_n ?_
  refine CS.block ?_
  refine CS.loop (X := Nat) (7 :: 8 :: 9 :: 10 :: 11 :: 12 :: 15 :: 16 :: 17 :: 18 :: 19 :: 20 :: 21 :: 22 :: 23 :: 24 :: 25 :: 26 :: 27 :: 28 :: 29 :: 30 :: 31 :: 32 :: 33 :: 34 :: 35 :: 36 :: 37 :: 38 :: 39 :: 40 :: 41 :: 42 :: 43 :: 44 :: 45 :: 46 :: 47 :: 48 :: 49 :: 50 :: 51 :: 52 :: 53 :: 54 :: 55 :: 56 :: 57 :: 58 :: 59 :: 60 :: 61 :: 62 :: 63 :: 64 :: 65 :: 66 :: 67 :: 68 :: 69 :: 70 :: 71 :: 72 :: 73 :: 74 :: 75 :: 76 :: 77 :: 78 :: 79 :: 80 :: 81 :: []) (fun k => [(15, iv (k : Int)), (7, iv ((crN l x y k : Nat) : Int))]) (fun k => []) (fun k => k ≤ l.length) (fun k => l.length - k) 0 (Nat.zero_le _) ?_ ?_ ?_
  · exact (by repeat (first | exact kn_nil | refine kn_cons (by rfl) ?_))
  · exact (by repeat (first | exact List.Sublist.refl _ | exact List.nil_sublist _ | refine List.Sublist.cons_cons _ ?_ | refine List.Sublist.cons _ ?_ | exact Sbp.refl | exact Sbp.nil | refine Sbp.cons (by repeat (first | exact Rem.head | apply Rem.tail)) ?_ | exact Sbp.app | refine Sbp.skip ?_ | exact List.sublist_append_left _ _ | exact List.sublist_append_right _ _))
  · intro k gj3 hz
    refine CS.seq ?_
    refine CS.region ?_
    refine RS.q rfl (QO.lss (by rfl) (by rfl)) ?_
    refine RS.nil ?_
    refine thenC_n ?_
    refine CS.seq ?_
    refine CS.cond (by rfl) (fun hb0 => ?_) (fun hb0 => ?_)
    · have hb0p := of_decide_eq_true hb0
      refine CS.skip ?_
      refine thenC_n ?_
      refine CS.seq ?_
      refine CS.block ?_
      refine CS.seq ?_
      refine CS.region ?_
      have hxA := hA.isS (show 0 < l.length by omega)
      obtain ⟨bA, oA, hA1⟩ := hxA
      obtain ⟨p, hp⟩ : ∃ p, l.getD k (0, 0) = p := ⟨_, rfl⟩
      obtain ⟨j, hj⟩ : ∃ j, (k + 1) % l.length = j := ⟨_, rfl⟩
      have hjl : j < l.length := hj ▸ Nat.mod_lt _ (by omega)
      obtain ⟨q, hq0⟩ : ∃ q, l.getD j (0, 0) = q := ⟨_, rfl⟩
      have hq : l.getD ((k + 1) % l.length) (0, 0) = q := by rw [hj]; exact hq0
      have hd1 := pts_at hA hA1 (i := k) (q := oA + (k : Int).toNat * 2) (by omega) (by omega) hp
      have hd2 := pts_at hA hA1 (i := j) (q := oA + (j : Int).toNat * 2) hjl (by omega) hq0
      have hpb := hb k (by omega)
      rw [hp] at hpb
      have hqb := hb j hjl
      rw [hq0] at hqb
      have hcl := crN_le l x y k
      refine RS.q rfl (QO.move) ?_
      refine RS.q rfl (QO.idx Try.underlying59 ty31 (congrArg (fun A => Value.slice A l.length c) hA1) (by rfl) (by omega) (by omega)) ?_
      refine RS.q rfl (QO.loadOA ty31 (vs := [iv p.1, iv p.2]) (by rfl) hd1 (by rfl)) ?_
      refine RS.alloc rfl ty31 ?_
      intro g9
      refine RS.q rfl (QO.assign) ?_
      first | refine RS.storeB ty31 (by rfl) (by rfl) (by rfl) (by rfl) (by rfl) (by repeat (first | exact Upd.head | apply Upd.tail)) (by rfl) ?_ | refine RS.storeP ty31 (by rfl) (by rfl) (by rfl) (by rfl) (by rfl) (by repeat (first | exact Upd.head | apply Upd.tail)) (by rfl) ?_
      refine RS.nil ?_
      refine thenC_n ?_
      refine CS.seq ?_
      refine CS.region ?_
      refine RS.q rfl (QO.move) ?_
      refine RS.q rfl (QO.move) ?_
      first | (refine RS.q rfl (QO.add (by rfl) (by rfl) (by omega) (by omega)) ?_) | (refine RS.q rfl (QO.ibin (by rfl) (by rfl) trivial) ?_)
      refine RS.q rfl (QO.move) ?_
      refine RS.q rfl (QO.lenS Try.underlying59 (by rfl)) ?_
      refine RS.qv rfl (QO.rem (by rfl) (by rfl) (by omega)) (congrArg iv (show ((k : Int) + 1).tmod ((l.length : Nat) : Int) = (j : Int) from by rw [tm1, hj])) ?_
      refine RS.q rfl (QO.idx Try.underlying59 ty31 (congrArg (fun A => Value.slice A l.length c) hA1) (by rfl) (by omega) (by omega)) ?_
      refine RS.q rfl (QO.loadOA ty31 (vs := [iv q.1, iv q.2]) (by rfl) hd2 (by rfl)) ?_
      refine RS.alloc rfl ty31 ?_
      intro g10
      first | refine RS.storeB ty31 (by rfl) (by rfl) (by rfl) (by rfl) (by rfl) (by repeat (first | exact Upd.head | apply Upd.tail)) (by rfl) ?_ | refine RS.storeP ty31 (by rfl) (by rfl) (by rfl) (by rfl) (by rfl) (by repeat (first | exact Upd.head | apply Upd.tail)) (by rfl) ?_
      refine RS.nil ?_
      refine thenC_n ?_
      refine CS.seq ?_
      refine CS.seq ?_
      refine CS.region ?_
      refine RS.q rfl (QO.fieldAddr fo31_1 (by rfl)) ?_
      first | (refine RS.q rfl (QO.load ty3 (by rfl) (by repeat (first | exact List.Mem.head _ | refine List.Mem.tail _ ?_)) (by rfl)) ?_) | (refine RS.q rfl (QO.loadO ty3 (by rfl) (by assumption)) ?_) | (refine RS.q rfl (QO.load ty3 (by rfl) (by repeat (first | exact List.Mem.head _ | refine List.Mem.tail _ ?_)) (by assumption)) ?_)
      refine RS.q rfl (QO.move) ?_
      refine RS.q rfl (QO.gtr (by rfl) (by rfl)) ?_
      refine RS.q rfl (QO.fieldAddr fo31_1 (by rfl)) ?_
      first | (refine RS.q rfl (QO.load ty3 (by rfl) (by repeat (first | exact List.Mem.head _ | refine List.Mem.tail _ ?_)) (by rfl)) ?_) | (refine RS.q rfl (QO.loadO ty3 (by rfl) (by assumption)) ?_) | (refine RS.q rfl (QO.load ty3 (by rfl) (by repeat (first | exact List.Mem.head _ | refine List.Mem.tail _ ?_)) (by assumption)) ?_)
      refine RS.q rfl (QO.move) ?_
      refine RS.q rfl (QO.gtr (by rfl) (by rfl)) ?_
      refine RS.q rfl (QO.beql Try.underlying4 (by rfl) (by rfl)) ?_
      refine RS.nil ?_
      refine thenC_n ?_
      refine CS.cond (by rfl) (fun hb1 => ?_) (fun hb1 => ?_)
      · refine CS.exit ?_
        refine thenC_x ?_
        refine blockC_x ?_
        refine thenC_n ?_
        refine CS.region ?_
        first | (refine RS.q rfl (QO.add (by rfl) (by rfl) (by omega) (by omega)) ?_) | (refine RS.q rfl (QO.ibin (by rfl) (by rfl) trivial) ?_)
        refine RS.q rfl (QO.move) ?_
        refine RS.nil ?_
        refine loopQ_n (by intro t ht; repeat (first | with_reducible exact rfl | exact frame_puts ht (frame_mix ht) _ rfl | (refine frame_put rfl ht ?_) | (refine frame_puts ht ?_ _ rfl) | exact frame_mix ht | (refine frame_mix2 rfl ht ?_) | exact rfl)) ?_
        first | exact ⟨k + 1, by omega, by omega, kn_cons (by rfl) (kn_cons (crN_T hp hq (crE_1 (by assumption) (by assumption) (by assumption))) kn_nil), (by repeat (first | exact List.Sublist.refl _ | exact List.nil_sublist _ | refine List.Sublist.cons_cons _ ?_ | refine List.Sublist.cons _ ?_ | exact Sbp.refl | exact Sbp.nil | refine Sbp.cons (by repeat (first | exact Rem.head | apply Rem.tail)) ?_ | exact Sbp.app | refine Sbp.skip ?_ | exact List.sublist_append_left _ _ | exact List.sublist_append_right _ _))⟩ | exact ⟨k + 1, by omega, by omega, kn_cons (by rfl) (kn_cons (crN_T hp hq (crE_3 (by assumption) (by assumption) (by assumption))) kn_nil), (by repeat (first | exact List.Sublist.refl _ | exact List.nil_sublist _ | refine List.Sublist.cons_cons _ ?_ | refine List.Sublist.cons _ ?_ | exact Sbp.refl | exact Sbp.nil | refine Sbp.cons (by repeat (first | exact Rem.head | apply Rem.tail)) ?_ | exact Sbp.app | refine Sbp.skip ?_ | exact List.sublist_append_left _ _ | exact List.sublist_append_right _ _))⟩ | exact ⟨k + 1, by omega, by omega, kn_cons (by rfl) (kn_cons (crN_F hp hq (crE_2 (by assumption) (by assumption) (by assumption))) kn_nil), (by repeat (first | exact List.Sublist.refl _ | exact List.nil_sublist _ | refine List.Sublist.cons_cons _ ?_ | refine List.Sublist.cons _ ?_ | exact Sbp.refl | exact Sbp.nil | refine Sbp.cons (by repeat (first | exact Rem.head | apply Rem.tail)) ?_ | exact Sbp.app | refine Sbp.skip ?_ | exact List.sublist_append_left _ _ | exact List.sublist_append_right _ _))⟩ | exact ⟨k + 1, by omega, by omega, kn_cons (by rfl) (kn_cons (crN_F hp hq (crE_4 (by assumption) (by assumption) (by assumption))) kn_nil), (by repeat (first | exact List.Sublist.refl _ | exact List.nil_sublist _ | refine List.Sublist.cons_cons _ ?_ | refine List.Sublist.cons _ ?_ | exact Sbp.refl | exact Sbp.nil | refine Sbp.cons (by repeat (first | exact Rem.head | apply Rem.tail)) ?_ | exact Sbp.app | refine Sbp.skip ?_ | exact List.sublist_append_left _ _ | exact List.sublist_append_right _ _))⟩ | exact ⟨k + 1, by omega, by omega, kn_cons (by rfl) (kn_cons (crN_F hp hq (crE_e (by assumption))) kn_nil), (by repeat (first | exact List.Sublist.refl _ | exact List.nil_sublist _ | refine List.Sublist.cons_cons _ ?_ | refine List.Sublist.cons _ ?_ | exact Sbp.refl | exact Sbp.nil | refine Sbp.cons (by repeat (first | exact Rem.head | apply Rem.tail)) ?_ | exact Sbp.app | refine Sbp.skip ?_ | exact List.sublist_append_left _ _ | exact List.sublist_append_right _ _))⟩ | (exfalso; omega)
      · refine CS.skip ?_
        refine thenC_n ?_
        refine CS.seq ?_
        refine CS.draw 22 rfl (by kernel_rfl) (by kernel_rfl) ?_
        refine RT.take (i := 0) rfl (by kernel_rfl) rfl (QO.move) ?_
        refine RT.take (i := 1) rfl (by kernel_rfl) rfl (QO.fieldAddr fo31_0 (by rfl)) ?_
        first | (refine RT.take (i := 2) rfl (by kernel_rfl) rfl (QO.load ty3 (by rfl) (by repeat (first | exact List.Mem.head _ | refine List.Mem.tail _ ?_)) (by rfl)) ?_) | (refine RT.take (i := 2) rfl (by kernel_rfl) rfl (QO.loadO ty3 (by rfl) (by assumption)) ?_) | (refine RT.take (i := 2) rfl (by kernel_rfl) rfl (QO.load ty3 (by rfl) (by repeat (first | exact List.Mem.head _ | refine List.Mem.tail _ ?_)) (by assumption)) ?_)
        first | (refine RT.take (i := 3) rfl (by kernel_rfl) rfl (QO.sub (by rfl) (by rfl) (by omega) (by omega)) ?_) | (refine RT.take (i := 3) rfl (by kernel_rfl) rfl (QO.ibin (by rfl) (by rfl) trivial) ?_)
        refine RT.take (i := 4) rfl (by kernel_rfl) rfl (QO.fieldAddr fo31_1 (by rfl)) ?_
        first | (refine RT.take (i := 5) rfl (by kernel_rfl) rfl (QO.load ty3 (by rfl) (by repeat (first | exact List.Mem.head _ | refine List.Mem.tail _ ?_)) (by rfl)) ?_) | (refine RT.take (i := 5) rfl (by kernel_rfl) rfl (QO.loadO ty3 (by rfl) (by assumption)) ?_) | (refine RT.take (i := 5) rfl (by kernel_rfl) rfl (QO.load ty3 (by rfl) (by repeat (first | exact List.Mem.head _ | refine List.Mem.tail _ ?_)) (by assumption)) ?_)
        refine RT.take (i := 6) rfl (by kernel_rfl) rfl (QO.fieldAddr fo31_1 (by rfl)) ?_
        first | (refine RT.take (i := 7) rfl (by kernel_rfl) rfl (QO.load ty3 (by rfl) (by repeat (first | exact List.Mem.head _ | refine List.Mem.tail _ ?_)) (by rfl)) ?_) | (refine RT.take (i := 7) rfl (by kernel_rfl) rfl (QO.loadO ty3 (by rfl) (by assumption)) ?_) | (refine RT.take (i := 7) rfl (by kernel_rfl) rfl (QO.load ty3 (by rfl) (by repeat (first | exact List.Mem.head _ | refine List.Mem.tail _ ?_)) (by assumption)) ?_)
        first | (refine RT.take (i := 8) rfl (by kernel_rfl) rfl (QO.sub (by rfl) (by rfl) (by omega) (by omega)) ?_) | (refine RT.take (i := 8) rfl (by kernel_rfl) rfl (QO.ibin (by rfl) (by rfl) trivial) ?_)
        have hm1 := mul_bdI (a := x - p.1) (b := q.2 - p.2) (by omega) (by omega)
        have hm2 := mul_bdI (a := q.1 - p.1) (b := y - p.2) (by omega) (by omega)
        refine RT.take (i := 9) rfl (by kernel_rfl) rfl (QO.mul (by rfl) (by rfl) hm1.1 hm1.2) ?_
        refine RT.take (i := 10) rfl (by kernel_rfl) rfl (QO.fieldAddr fo31_0 (by rfl)) ?_
        first | (refine RT.take (i := 11) rfl (by kernel_rfl) rfl (QO.load ty3 (by rfl) (by repeat (first | exact List.Mem.head _ | refine List.Mem.tail _ ?_)) (by rfl)) ?_) | (refine RT.take (i := 11) rfl (by kernel_rfl) rfl (QO.loadO ty3 (by rfl) (by assumption)) ?_) | (refine RT.take (i := 11) rfl (by kernel_rfl) rfl (QO.load ty3 (by rfl) (by repeat (first | exact List.Mem.head _ | refine List.Mem.tail _ ?_)) (by assumption)) ?_)
        refine RT.take (i := 12) rfl (by kernel_rfl) rfl (QO.fieldAddr fo31_0 (by rfl)) ?_
        first | (refine RT.take (i := 13) rfl (by kernel_rfl) rfl (QO.load ty3 (by rfl) (by repeat (first | exact List.Mem.head _ | refine List.Mem.tail _ ?_)) (by rfl)) ?_) | (refine RT.take (i := 13) rfl (by kernel_rfl) rfl (QO.loadO ty3 (by rfl) (by assumption)) ?_) | (refine RT.take (i := 13) rfl (by kernel_rfl) rfl (QO.load ty3 (by rfl) (by repeat (first | exact List.Mem.head _ | refine List.Mem.tail _ ?_)) (by assumption)) ?_)
        first | (refine RT.take (i := 14) rfl (by kernel_rfl) rfl (QO.sub (by rfl) (by rfl) (by omega) (by omega)) ?_) | (refine RT.take (i := 14) rfl (by kernel_rfl) rfl (QO.ibin (by rfl) (by rfl) trivial) ?_)
        refine RT.take (i := 15) rfl (by kernel_rfl) rfl (QO.move) ?_
        refine RT.take (i := 16) rfl (by kernel_rfl) rfl (QO.fieldAddr fo31_1 (by rfl)) ?_
        first | (refine RT.take (i := 17) rfl (by kernel_rfl) rfl (QO.load ty3 (by rfl) (by repeat (first | exact List.Mem.head _ | refine List.Mem.tail _ ?_)) (by rfl)) ?_) | (refine RT.take (i := 17) rfl (by kernel_rfl) rfl (QO.loadO ty3 (by rfl) (by assumption)) ?_) | (refine RT.take (i := 17) rfl (by kernel_rfl) rfl (QO.load ty3 (by rfl) (by repeat (first | exact List.Mem.head _ | refine List.Mem.tail _ ?_)) (by assumption)) ?_)
        first | (refine RT.take (i := 18) rfl (by kernel_rfl) rfl (QO.sub (by rfl) (by rfl) (by omega) (by omega)) ?_) | (refine RT.take (i := 18) rfl (by kernel_rfl) rfl (QO.ibin (by rfl) (by rfl) trivial) ?_)
        refine RT.take (i := 19) rfl (by kernel_rfl) rfl (QO.mul (by rfl) (by rfl) hm2.1 hm2.2) ?_
        refine RT.take (i := 20) rfl (by kernel_rfl) rfl (QO.assign) ?_
        refine RT.take (i := 21) rfl (by kernel_rfl) rfl (QO.assign) ?_
        refine RT.done (by kernel_rfl) ?_
        refine thenC_n ?_
        refine CS.seq ?_
        refine CS.region ?_
        refine RS.q rfl (QO.fieldAddr fo31_1 (by rfl)) ?_
        first | (refine RS.q rfl (QO.load ty3 (by rfl) (by repeat (first | exact List.Mem.head _ | refine List.Mem.tail _ ?_)) (by rfl)) ?_) | (refine RS.q rfl (QO.loadO ty3 (by rfl) (by assumption)) ?_) | (refine RS.q rfl (QO.load ty3 (by rfl) (by repeat (first | exact List.Mem.head _ | refine List.Mem.tail _ ?_)) (by assumption)) ?_)
        refine RS.q rfl (QO.fieldAddr fo31_1 (by rfl)) ?_
        first | (refine RS.q rfl (QO.load ty3 (by rfl) (by repeat (first | exact List.Mem.head _ | refine List.Mem.tail _ ?_)) (by rfl)) ?_) | (refine RS.q rfl (QO.loadO ty3 (by rfl) (by assumption)) ?_) | (refine RS.q rfl (QO.load ty3 (by rfl) (by repeat (first | exact List.Mem.head _ | refine List.Mem.tail _ ?_)) (by assumption)) ?_)
        refine RS.q rfl (QO.gtr (by rfl) (by rfl)) ?_
        refine RS.q rfl (QO.move) ?_
        refine RS.split (dj := 62) (by rfl) (fun hb2 => ?_) (fun hb2 => ?_)
        · have hb2p := of_decide_eq_true hb2
          refine RS.on (dj := 62) rfl (congrArg Value.bool hb2) ?_
          refine RS.q rfl (QO.move) ?_
          refine RS.on (dj := 62) rfl (congrArg Value.bool hb2) ?_
          refine RS.q rfl (QO.move) ?_
          refine RS.on (dj := 62) rfl (congrArg Value.bool hb2) ?_
          refine RS.q rfl (QO.lss (by rfl) (by rfl)) ?_
          refine RS.q rfl (QO.pickT (by rfl) hb2 (by rfl)) ?_
          refine RS.q rfl (QO.move) ?_
          refine RS.split (dj := 67) (by rfl) (fun hb3 => ?_) (fun hb3 => ?_)
          · have hb3p := of_decide_eq_true hb3
            refine RS.off (dj := 67) rfl (.inl (congrArg Value.bool hb3)) (fun _ => rfl) rfl ?_
            refine RS.off (dj := 67) rfl (.inl (congrArg Value.bool hb3)) (fun _ => rfl) rfl ?_
            refine RS.off (dj := 67) rfl (.inl (congrArg Value.bool hb3)) (fun _ => rfl) rfl ?_
            refine RS.off (dj := 67) rfl (.inl (congrArg Value.bool hb3)) (fun _ => rfl) rfl ?_
            refine RS.off (dj := 67) rfl (.inl (congrArg Value.bool hb3)) (fun _ => rfl) rfl ?_
            refine RS.off (dj := 67) rfl (.inl (congrArg Value.bool hb3)) (fun _ => rfl) rfl ?_
            refine RS.off (dj := 73) (c := false) rfl (.inr rfl) (fun h => by cases h) rfl ?_
            refine RS.off (dj := 73) (c := false) rfl (.inr rfl) (fun h => by cases h) rfl ?_
            refine RS.off (dj := 73) (c := false) rfl (.inr rfl) (fun h => by cases h) rfl ?_
            refine RS.off (dj := 67) rfl (.inl (congrArg Value.bool hb3)) (fun _ => rfl) rfl ?_
            refine RS.q rfl (QO.pickT (by rfl) hb3 (by rfl)) ?_
            refine RS.nil ?_
            refine thenC_n ?_
            refine CS.condT (by rfl) rfl ?_
            refine CS.region ?_
            refine RS.q rfl (QO.move) ?_
            first | (refine RS.q rfl (QO.add (by rfl) (by rfl) (by omega) (by omega)) ?_) | (refine RS.q rfl (QO.ibin (by rfl) (by rfl) trivial) ?_)
            refine RS.q rfl (QO.assign) ?_
            refine RS.nil ?_
            refine blockC_n ?_
            refine thenC_n ?_
            refine CS.region ?_
            first | (refine RS.q rfl (QO.add (by rfl) (by rfl) (by omega) (by omega)) ?_) | (refine RS.q rfl (QO.ibin (by rfl) (by rfl) trivial) ?_)
            refine RS.q rfl (QO.move) ?_
            refine RS.nil ?_
            refine loopQ_n (by intro t ht; repeat (first | with_reducible exact rfl | exact frame_puts ht (frame_mix ht) _ rfl | (refine frame_put rfl ht ?_) | (refine frame_puts ht ?_ _ rfl) | exact frame_mix ht | (refine frame_mix2 rfl ht ?_) | exact rfl)) ?_
            first | exact ⟨k + 1, by omega, by omega, kn_cons (by rfl) (kn_cons (crN_T hp hq (crE_1 (by assumption) (by assumption) (by assumption))) kn_nil), (by repeat (first | exact List.Sublist.refl _ | exact List.nil_sublist _ | refine List.Sublist.cons_cons _ ?_ | refine List.Sublist.cons _ ?_ | exact Sbp.refl | exact Sbp.nil | refine Sbp.cons (by repeat (first | exact Rem.head | apply Rem.tail)) ?_ | exact Sbp.app | refine Sbp.skip ?_ | exact List.sublist_append_left _ _ | exact List.sublist_append_right _ _))⟩ | exact ⟨k + 1, by omega, by omega, kn_cons (by rfl) (kn_cons (crN_T hp hq (crE_3 (by assumption) (by assumption) (by assumption))) kn_nil), (by repeat (first | exact List.Sublist.refl _ | exact List.nil_sublist _ | refine List.Sublist.cons_cons _ ?_ | refine List.Sublist.cons _ ?_ | exact Sbp.refl | exact Sbp.nil | refine Sbp.cons (by repeat (first | exact Rem.head | apply Rem.tail)) ?_ | exact Sbp.app | refine Sbp.skip ?_ | exact List.sublist_append_left _ _ | exact List.sublist_append_right _ _))⟩ | exact ⟨k + 1, by omega, by omega, kn_cons (by rfl) (kn_cons (crN_F hp hq (crE_2 (by assumption) (by assumption) (by assumption))) kn_nil), (by repeat (first | exact List.Sublist.refl _ | exact List.nil_sublist _ | refine List.Sublist.cons_cons _ ?_ | refine List.Sublist.cons _ ?_ | exact Sbp.refl | exact Sbp.nil | refine Sbp.cons (by repeat (first | exact Rem.head | apply Rem.tail)) ?_ | exact Sbp.app | refine Sbp.skip ?_ | exact List.sublist_append_left _ _ | exact List.sublist_append_right _ _))⟩ | exact ⟨k + 1, by omega, by omega, kn_cons (by rfl) (kn_cons (crN_F hp hq (crE_4 (by assumption) (by assumption) (by assumption))) kn_nil), (by repeat (first | exact List.Sublist.refl _ | exact List.nil_sublist _ | refine List.Sublist.cons_cons _ ?_ | refine List.Sublist.cons _ ?_ | exact Sbp.refl | exact Sbp.nil | refine Sbp.cons (by repeat (first | exact Rem.head | apply Rem.tail)) ?_ | exact Sbp.app | refine Sbp.skip ?_ | exact List.sublist_append_left _ _ | exact List.sublist_append_right _ _))⟩ | exact ⟨k + 1, by omega, by omega, kn_cons (by rfl) (kn_cons (crN_F hp hq (crE_e (by assumption))) kn_nil), (by repeat (first | exact List.Sublist.refl _ | exact List.nil_sublist _ | refine List.Sublist.cons_cons _ ?_ | refine List.Sublist.cons _ ?_ | exact Sbp.refl | exact Sbp.nil | refine Sbp.cons (by repeat (first | exact Rem.head | apply Rem.tail)) ?_ | exact Sbp.app | refine Sbp.skip ?_ | exact List.sublist_append_left _ _ | exact List.sublist_append_right _ _))⟩ | (exfalso; omega)
          · have hb3p := of_decide_eq_false hb3
            refine RS.on (dj := 67) rfl (congrArg Value.bool hb3) ?_
            refine RS.q rfl (QO.fieldAddr fo31_1 (by rfl)) ?_
            refine RS.on (dj := 67) rfl (congrArg Value.bool hb3) ?_
            first | (refine RS.q rfl (QO.load ty3 (by rfl) (by repeat (first | exact List.Mem.head _ | refine List.Mem.tail _ ?_)) (by rfl)) ?_) | (refine RS.q rfl (QO.loadO ty3 (by rfl) (by assumption)) ?_) | (refine RS.q rfl (QO.load ty3 (by rfl) (by repeat (first | exact List.Mem.head _ | refine List.Mem.tail _ ?_)) (by assumption)) ?_)
            refine RS.on (dj := 67) rfl (congrArg Value.bool hb3) ?_
            refine RS.q rfl (QO.fieldAddr fo31_1 (by rfl)) ?_
            refine RS.on (dj := 67) rfl (congrArg Value.bool hb3) ?_
            first | (refine RS.q rfl (QO.load ty3 (by rfl) (by repeat (first | exact List.Mem.head _ | refine List.Mem.tail _ ?_)) (by rfl)) ?_) | (refine RS.q rfl (QO.loadO ty3 (by rfl) (by assumption)) ?_) | (refine RS.q rfl (QO.load ty3 (by rfl) (by repeat (first | exact List.Mem.head _ | refine List.Mem.tail _ ?_)) (by assumption)) ?_)
            refine RS.on (dj := 67) rfl (congrArg Value.bool hb3) ?_
            refine RS.q rfl (QO.leq (by rfl) (by rfl)) ?_
            refine RS.on (dj := 67) rfl (congrArg Value.bool hb3) ?_
            refine RS.q rfl (QO.move) ?_
            refine RS.split (dj := 73) (by rfl) (fun hb4 => ?_) (fun hb4 => ?_)
            · have hb4p := of_decide_eq_true hb4
              refine RS.on (dj := 73) rfl (congrArg Value.bool hb4) ?_
              refine RS.q rfl (QO.move) ?_
              refine RS.on (dj := 73) rfl (congrArg Value.bool hb4) ?_
              refine RS.q rfl (QO.move) ?_
              refine RS.on (dj := 73) rfl (congrArg Value.bool hb4) ?_
              refine RS.q rfl (QO.gtr (by rfl) (by rfl)) ?_
              refine RS.on (dj := 67) rfl (congrArg Value.bool hb3) ?_
              refine RS.q rfl (QO.pickT (by rfl) hb4 (by rfl)) ?_
              refine RS.q rfl (QO.pickF (by rfl) hb3 (by rfl)) ?_
              refine RS.nil ?_
              refine thenC_n ?_
              refine CS.cond (by rfl) (fun hb5 => ?_) (fun hb5 => ?_)
              · have hb5p := of_decide_eq_true hb5
                refine CS.region ?_
                refine RS.q rfl (QO.move) ?_
                first | (refine RS.q rfl (QO.add (by rfl) (by rfl) (by omega) (by omega)) ?_) | (refine RS.q rfl (QO.ibin (by rfl) (by rfl) trivial) ?_)
                refine RS.q rfl (QO.assign) ?_
                refine RS.nil ?_
                refine blockC_n ?_
                refine thenC_n ?_
                refine CS.region ?_
                first | (refine RS.q rfl (QO.add (by rfl) (by rfl) (by omega) (by omega)) ?_) | (refine RS.q rfl (QO.ibin (by rfl) (by rfl) trivial) ?_)
                refine RS.q rfl (QO.move) ?_
                refine RS.nil ?_
                refine loopQ_n (by intro t ht; repeat (first | with_reducible exact rfl | exact frame_puts ht (frame_mix ht) _ rfl | (refine frame_put rfl ht ?_) | (refine frame_puts ht ?_ _ rfl) | exact frame_mix ht | (refine frame_mix2 rfl ht ?_) | exact rfl)) ?_
                first | exact ⟨k + 1, by omega, by omega, kn_cons (by rfl) (kn_cons (crN_T hp hq (crE_1 (by assumption) (by assumption) (by assumption))) kn_nil), (by repeat (first | exact List.Sublist.refl _ | exact List.nil_sublist _ | refine List.Sublist.cons_cons _ ?_ | refine List.Sublist.cons _ ?_ | exact Sbp.refl | exact Sbp.nil | refine Sbp.cons (by repeat (first | exact Rem.head | apply Rem.tail)) ?_ | exact Sbp.app | refine Sbp.skip ?_ | exact List.sublist_append_left _ _ | exact List.sublist_append_right _ _))⟩ | exact ⟨k + 1, by omega, by omega, kn_cons (by rfl) (kn_cons (crN_T hp hq (crE_3 (by assumption) (by assumption) (by assumption))) kn_nil), (by repeat (first | exact List.Sublist.refl _ | exact List.nil_sublist _ | refine List.Sublist.cons_cons _ ?_ | refine List.Sublist.cons _ ?_ | exact Sbp.refl | exact Sbp.nil | refine Sbp.cons (by repeat (first | exact Rem.head | apply Rem.tail)) ?_ | exact Sbp.app | refine Sbp.skip ?_ | exact List.sublist_append_left _ _ | exact List.sublist_append_right _ _))⟩ | exact ⟨k + 1, by omega, by omega, kn_cons (by rfl) (kn_cons (crN_F hp hq (crE_2 (by assumption) (by assumption) (by assumption))) kn_nil), (by repeat (first | exact List.Sublist.refl _ | exact List.nil_sublist _ | refine List.Sublist.cons_cons _ ?_ | refine List.Sublist.cons _ ?_ | exact Sbp.refl | exact Sbp.nil | refine Sbp.cons (by repeat (first | exact Rem.head | apply Rem.tail)) ?_ | exact Sbp.app | refine Sbp.skip ?_ | exact List.sublist_append_left _ _ | exact List.sublist_append_right _ _))⟩ | exact ⟨k + 1, by omega, by omega, kn_cons (by rfl) (kn_cons (crN_F hp hq (crE_4 (by assumption) (by assumption) (by assumption))) kn_nil), (by repeat (first | exact List.Sublist.refl _ | exact List.nil_sublist _ | refine List.Sublist.cons_cons _ ?_ | refine List.Sublist.cons _ ?_ | exact Sbp.refl | exact Sbp.nil | refine Sbp.cons (by repeat (first | exact Rem.head | apply Rem.tail)) ?_ | exact Sbp.app | refine Sbp.skip ?_ | exact List.sublist_append_left _ _ | exact List.sublist_append_right _ _))⟩ | exact ⟨k + 1, by omega, by omega, kn_cons (by rfl) (kn_cons (crN_F hp hq (crE_e (by assumption))) kn_nil), (by repeat (first | exact List.Sublist.refl _ | exact List.nil_sublist _ | refine List.Sublist.cons_cons _ ?_ | refine List.Sublist.cons _ ?_ | exact Sbp.refl | exact Sbp.nil | refine Sbp.cons (by repeat (first | exact Rem.head | apply Rem.tail)) ?_ | exact Sbp.app | refine Sbp.skip ?_ | exact List.sublist_append_left _ _ | exact List.sublist_append_right _ _))⟩ | (exfalso; omega)
              · have hb5p := of_decide_eq_false hb5
                refine CS.skip ?_
                refine blockC_n ?_
                refine thenC_n ?_
                refine CS.region ?_
                first | (refine RS.q rfl (QO.add (by rfl) (by rfl) (by omega) (by omega)) ?_) | (refine RS.q rfl (QO.ibin (by rfl) (by rfl) trivial) ?_)
                refine RS.q rfl (QO.move) ?_
                refine RS.nil ?_
                refine loopQ_n (by intro t ht; repeat (first | with_reducible exact rfl | exact frame_puts ht (frame_mix ht) _ rfl | (refine frame_put rfl ht ?_) | (refine frame_puts ht ?_ _ rfl) | exact frame_mix ht | (refine frame_mix2 rfl ht ?_) | exact rfl)) ?_
                first | exact ⟨k + 1, by omega, by omega, kn_cons (by rfl) (kn_cons (crN_T hp hq (crE_1 (by assumption) (by assumption) (by assumption))) kn_nil), (by repeat (first | exact List.Sublist.refl _ | exact List.nil_sublist _ | refine List.Sublist.cons_cons _ ?_ | refine List.Sublist.cons _ ?_ | exact Sbp.refl | exact Sbp.nil | refine Sbp.cons (by repeat (first | exact Rem.head | apply Rem.tail)) ?_ | exact Sbp.app | refine Sbp.skip ?_ | exact List.sublist_append_left _ _ | exact List.sublist_append_right _ _))⟩ | exact ⟨k + 1, by omega, by omega, kn_cons (by rfl) (kn_cons (crN_T hp hq (crE_3 (by assumption) (by assumption) (by assumption))) kn_nil), (by repeat (first | exact List.Sublist.refl _ | exact List.nil_sublist _ | refine List.Sublist.cons_cons _ ?_ | refine List.Sublist.cons _ ?_ | exact Sbp.refl | exact Sbp.nil | refine Sbp.cons (by repeat (first | exact Rem.head | apply Rem.tail)) ?_ | exact Sbp.app | refine Sbp.skip ?_ | exact List.sublist_append_left _ _ | exact List.sublist_append_right _ _))⟩ | exact ⟨k + 1, by omega, by omega, kn_cons (by rfl) (kn_cons (crN_F hp hq (crE_2 (by assumption) (by assumption) (by assumption))) kn_nil), (by repeat (first | exact List.Sublist.refl _ | exact List.nil_sublist _ | refine List.Sublist.cons_cons _ ?_ | refine List.Sublist.cons _ ?_ | exact Sbp.refl | exact Sbp.nil | refine Sbp.cons (by repeat (first | exact Rem.head | apply Rem.tail)) ?_ | exact Sbp.app | refine Sbp.skip ?_ | exact List.sublist_append_left _ _ | exact List.sublist_append_right _ _))⟩ | exact ⟨k + 1, by omega, by omega, kn_cons (by rfl) (kn_cons (crN_F hp hq (crE_4 (by assumption) (by assumption) (by assumption))) kn_nil), (by repeat (first | exact List.Sublist.refl _ | exact List.nil_sublist _ | refine List.Sublist.cons_cons _ ?_ | refine List.Sublist.cons _ ?_ | exact Sbp.refl | exact Sbp.nil | refine Sbp.cons (by repeat (first | exact Rem.head | apply Rem.tail)) ?_ | exact Sbp.app | refine Sbp.skip ?_ | exact List.sublist_append_left _ _ | exact List.sublist_append_right _ _))⟩ | exact ⟨k + 1, by omega, by omega, kn_cons (by rfl) (kn_cons (crN_F hp hq (crE_e (by assumption))) kn_nil), (by repeat (first | exact List.Sublist.refl _ | exact List.nil_sublist _ | refine List.Sublist.cons_cons _ ?_ | refine List.Sublist.cons _ ?_ | exact Sbp.refl | exact Sbp.nil | refine Sbp.cons (by repeat (first | exact Rem.head | apply Rem.tail)) ?_ | exact Sbp.app | refine Sbp.skip ?_ | exact List.sublist_append_left _ _ | exact List.sublist_append_right _ _))⟩ | (exfalso; omega)
            · have hb4p := of_decide_eq_false hb4
              refine RS.off (dj := 73) rfl (.inl (congrArg Value.bool hb4)) (fun _ => rfl) rfl ?_
              refine RS.off (dj := 73) rfl (.inl (congrArg Value.bool hb4)) (fun _ => rfl) rfl ?_
              refine RS.off (dj := 73) rfl (.inl (congrArg Value.bool hb4)) (fun _ => rfl) rfl ?_
              refine RS.on (dj := 67) rfl (congrArg Value.bool hb3) ?_
              refine RS.q rfl (QO.pickF (by rfl) hb4 (by rfl)) ?_
              refine RS.q rfl (QO.pickF (by rfl) hb3 (by rfl)) ?_
              refine RS.nil ?_
              refine thenC_n ?_
              refine CS.condF (by rfl) rfl ?_
              refine CS.skip ?_
              refine blockC_n ?_
              refine thenC_n ?_
              refine CS.region ?_
              first | (refine RS.q rfl (QO.add (by rfl) (by rfl) (by omega) (by omega)) ?_) | (refine RS.q rfl (QO.ibin (by rfl) (by rfl) trivial) ?_)
              refine RS.q rfl (QO.move) ?_
              refine RS.nil ?_
              refine loopQ_n (by intro t ht; repeat (first | with_reducible exact rfl | exact frame_puts ht (frame_mix ht) _ rfl | (refine frame_put rfl ht ?_) | (refine frame_puts ht ?_ _ rfl) | exact frame_mix ht | (refine frame_mix2 rfl ht ?_) | exact rfl)) ?_
              first | exact ⟨k + 1, by omega, by omega, kn_cons (by rfl) (kn_cons (crN_T hp hq (crE_1 (by assumption) (by assumption) (by assumption))) kn_nil), (by repeat (first | exact List.Sublist.refl _ | exact List.nil_sublist _ | refine List.Sublist.cons_cons _ ?_ | refine List.Sublist.cons _ ?_ | exact Sbp.refl | exact Sbp.nil | refine Sbp.cons (by repeat (first | exact Rem.head | apply Rem.tail)) ?_ | exact Sbp.app | refine Sbp.skip ?_ | exact List.sublist_append_left _ _ | exact List.sublist_append_right _ _))⟩ | exact ⟨k + 1, by omega, by omega, kn_cons (by rfl) (kn_cons (crN_T hp hq (crE_3 (by assumption) (by assumption) (by assumption))) kn_nil), (by repeat (first | exact List.Sublist.refl _ | exact List.nil_sublist _ | refine List.Sublist.cons_cons _ ?_ | refine List.Sublist.cons _ ?_ | exact Sbp.refl | exact Sbp.nil | refine Sbp.cons (by repeat (first | exact Rem.head | apply Rem.tail)) ?_ | exact Sbp.app | refine Sbp.skip ?_ | exact List.sublist_append_left _ _ | exact List.sublist_append_right _ _))⟩ | exact ⟨k + 1, by omega, by omega, kn_cons (by rfl) (kn_cons (crN_F hp hq (crE_2 (by assumption) (by assumption) (by assumption))) kn_nil), (by repeat (first | exact List.Sublist.refl _ | exact List.nil_sublist _ | refine List.Sublist.cons_cons _ ?_ | refine List.Sublist.cons _ ?_ | exact Sbp.refl | exact Sbp.nil | refine Sbp.cons (by repeat (first | exact Rem.head | apply Rem.tail)) ?_ | exact Sbp.app | refine Sbp.skip ?_ | exact List.sublist_append_left _ _ | exact List.sublist_append_right _ _))⟩ | exact ⟨k + 1, by omega, by omega, kn_cons (by rfl) (kn_cons (crN_F hp hq (crE_4 (by assumption) (by assumption) (by assumption))) kn_nil), (by repeat (first | exact List.Sublist.refl _ | exact List.nil_sublist _ | refine List.Sublist.cons_cons _ ?_ | refine List.Sublist.cons _ ?_ | exact Sbp.refl | exact Sbp.nil | refine Sbp.cons (by repeat (first | exact Rem.head | apply Rem.tail)) ?_ | exact Sbp.app | refine Sbp.skip ?_ | exact List.sublist_append_left _ _ | exact List.sublist_append_right _ _))⟩ | exact ⟨k + 1, by omega, by omega, kn_cons (by rfl) (kn_cons (crN_F hp hq (crE_e (by assumption))) kn_nil), (by repeat (first | exact List.Sublist.refl _ | exact List.nil_sublist _ | refine List.Sublist.cons_cons _ ?_ | refine List.Sublist.cons _ ?_ | exact Sbp.refl | exact Sbp.nil | refine Sbp.cons (by repeat (first | exact Rem.head | apply Rem.tail)) ?_ | exact Sbp.app | refine Sbp.skip ?_ | exact List.sublist_append_left _ _ | exact List.sublist_append_right _ _))⟩ | (exfalso; omega)
        · have hb2p := of_decide_eq_false hb2
          refine RS.off (dj := 62) rfl (.inl (congrArg Value.bool hb2)) (fun _ => rfl) rfl ?_
          refine RS.off (dj := 62) rfl (.inl (congrArg Value.bool hb2)) (fun _ => rfl) rfl ?_
          refine RS.off (dj := 62) rfl (.inl (congrArg Value.bool hb2)) (fun _ => rfl) rfl ?_
          refine RS.q rfl (QO.pickF (by rfl) hb2 (by rfl)) ?_
          refine RS.q rfl (QO.move) ?_
          refine RS.on (dj := 67) rfl (congrArg Value.bool rfl) ?_
          refine RS.q rfl (QO.fieldAddr fo31_1 (by rfl)) ?_
          refine RS.on (dj := 67) rfl (congrArg Value.bool rfl) ?_
          first | (refine RS.q rfl (QO.load ty3 (by rfl) (by repeat (first | exact List.Mem.head _ | refine List.Mem.tail _ ?_)) (by rfl)) ?_) | (refine RS.q rfl (QO.loadO ty3 (by rfl) (by assumption)) ?_) | (refine RS.q rfl (QO.load ty3 (by rfl) (by repeat (first | exact List.Mem.head _ | refine List.Mem.tail _ ?_)) (by assumption)) ?_)
          refine RS.on (dj := 67) rfl (congrArg Value.bool rfl) ?_
          refine RS.q rfl (QO.fieldAddr fo31_1 (by rfl)) ?_
          refine RS.on (dj := 67) rfl (congrArg Value.bool rfl) ?_
          first | (refine RS.q rfl (QO.load ty3 (by rfl) (by repeat (first | exact List.Mem.head _ | refine List.Mem.tail _ ?_)) (by rfl)) ?_) | (refine RS.q rfl (QO.loadO ty3 (by rfl) (by assumption)) ?_) | (refine RS.q rfl (QO.load ty3 (by rfl) (by repeat (first | exact List.Mem.head _ | refine List.Mem.tail _ ?_)) (by assumption)) ?_)
          refine RS.on (dj := 67) rfl (congrArg Value.bool rfl) ?_
          refine RS.q rfl (QO.leq (by rfl) (by rfl)) ?_
          refine RS.on (dj := 67) rfl (congrArg Value.bool rfl) ?_
          refine RS.q rfl (QO.move) ?_
          refine RS.split (dj := 73) (by rfl) (fun hb6 => ?_) (fun hb6 => ?_)
          · have hb6p := of_decide_eq_true hb6
            refine RS.on (dj := 73) rfl (congrArg Value.bool hb6) ?_
            refine RS.q rfl (QO.move) ?_
            refine RS.on (dj := 73) rfl (congrArg Value.bool hb6) ?_
            refine RS.q rfl (QO.move) ?_
            refine RS.on (dj := 73) rfl (congrArg Value.bool hb6) ?_
            refine RS.q rfl (QO.gtr (by rfl) (by rfl)) ?_
            refine RS.on (dj := 67) rfl (congrArg Value.bool rfl) ?_
            refine RS.q rfl (QO.pickT (by rfl) hb6 (by rfl)) ?_
            refine RS.q rfl (QO.pickF (by rfl) rfl (by rfl)) ?_
            refine RS.nil ?_
            refine thenC_n ?_
            refine CS.cond (by rfl) (fun hb7 => ?_) (fun hb7 => ?_)
            · have hb7p := of_decide_eq_true hb7
              refine CS.region ?_
              refine RS.q rfl (QO.move) ?_
              first | (refine RS.q rfl (QO.add (by rfl) (by rfl) (by omega) (by omega)) ?_) | (refine RS.q rfl (QO.ibin (by rfl) (by rfl) trivial) ?_)
              refine RS.q rfl (QO.assign) ?_
              refine RS.nil ?_
              refine blockC_n ?_
              refine thenC_n ?_
              refine CS.region ?_
              first | (refine RS.q rfl (QO.add (by rfl) (by rfl) (by omega) (by omega)) ?_) | (refine RS.q rfl (QO.ibin (by rfl) (by rfl) trivial) ?_)
              refine RS.q rfl (QO.move) ?_
              refine RS.nil ?_
              refine loopQ_n (by intro t ht; repeat (first | with_reducible exact rfl | exact frame_puts ht (frame_mix ht) _ rfl | (refine frame_put rfl ht ?_) | (refine frame_puts ht ?_ _ rfl) | exact frame_mix ht | (refine frame_mix2 rfl ht ?_) | exact rfl)) ?_
              first | exact ⟨k + 1, by omega, by omega, kn_cons (by rfl) (kn_cons (crN_T hp hq (crE_1 (by assumption) (by assumption) (by assumption))) kn_nil), (by repeat (first | exact List.Sublist.refl _ | exact List.nil_sublist _ | refine List.Sublist.cons_cons _ ?_ | refine List.Sublist.cons _ ?_ | exact Sbp.refl | exact Sbp.nil | refine Sbp.cons (by repeat (first | exact Rem.head | apply Rem.tail)) ?_ | exact Sbp.app | refine Sbp.skip ?_ | exact List.sublist_append_left _ _ | exact List.sublist_append_right _ _))⟩ | exact ⟨k + 1, by omega, by omega, kn_cons (by rfl) (kn_cons (crN_T hp hq (crE_3 (by assumption) (by assumption) (by assumption))) kn_nil), (by repeat (first | exact List.Sublist.refl _ | exact List.nil_sublist _ | refine List.Sublist.cons_cons _ ?_ | refine List.Sublist.cons _ ?_ | exact Sbp.refl | exact Sbp.nil | refine Sbp.cons (by repeat (first | exact Rem.head | apply Rem.tail)) ?_ | exact Sbp.app | refine Sbp.skip ?_ | exact List.sublist_append_left _ _ | exact List.sublist_append_right _ _))⟩ | exact ⟨k + 1, by omega, by omega, kn_cons (by rfl) (kn_cons (crN_F hp hq (crE_2 (by assumption) (by assumption) (by assumption))) kn_nil), (by repeat (first | exact List.Sublist.refl _ | exact List.nil_sublist _ | refine List.Sublist.cons_cons _ ?_ | refine List.Sublist.cons _ ?_ | exact Sbp.refl | exact Sbp.nil | refine Sbp.cons (by repeat (first | exact Rem.head | apply Rem.tail)) ?_ | exact Sbp.app | refine Sbp.skip ?_ | exact List.sublist_append_left _ _ | exact List.sublist_append_right _ _))⟩ | exact ⟨k + 1, by omega, by omega, kn_cons (by rfl) (kn_cons (crN_F hp hq (crE_4 (by assumption) (by assumption) (by assumption))) kn_nil), (by repeat (first | exact List.Sublist.refl _ | exact List.nil_sublist _ | refine List.Sublist.cons_cons _ ?_ | refine List.Sublist.cons _ ?_ | exact Sbp.refl | exact Sbp.nil | refine Sbp.cons (by repeat (first | exact Rem.head | apply Rem.tail)) ?_ | exact Sbp.app | refine Sbp.skip ?_ | exact List.sublist_append_left _ _ | exact List.sublist_append_right _ _))⟩ | exact ⟨k + 1, by omega, by omega, kn_cons (by rfl) (kn_cons (crN_F hp hq (crE_e (by assumption))) kn_nil), (by repeat (first | exact List.Sublist.refl _ | exact List.nil_sublist _ | refine List.Sublist.cons_cons _ ?_ | refine List.Sublist.cons _ ?_ | exact Sbp.refl | exact Sbp.nil | refine Sbp.cons (by repeat (first | exact Rem.head | apply Rem.tail)) ?_ | exact Sbp.app | refine Sbp.skip ?_ | exact List.sublist_append_left _ _ | exact List.sublist_append_right _ _))⟩ | (exfalso; omega)
            · have hb7p := of_decide_eq_false hb7
              refine CS.skip ?_
              refine blockC_n ?_
              refine thenC_n ?_
              refine CS.region ?_
              first | (refine RS.q rfl (QO.add (by rfl) (by rfl) (by omega) (by omega)) ?_) | (refine RS.q rfl (QO.ibin (by rfl) (by rfl) trivial) ?_)
              refine RS.q rfl (QO.move) ?_
              refine RS.nil ?_
              refine loopQ_n (by intro t ht; repeat (first | with_reducible exact rfl | exact frame_puts ht (frame_mix ht) _ rfl | (refine frame_put rfl ht ?_) | (refine frame_puts ht ?_ _ rfl) | exact frame_mix ht | (refine frame_mix2 rfl ht ?_) | exact rfl)) ?_
              first | exact ⟨k + 1, by omega, by omega, kn_cons (by rfl) (kn_cons (crN_T hp hq (crE_1 (by assumption) (by assumption) (by assumption))) kn_nil), (by repeat (first | exact List.Sublist.refl _ | exact List.nil_sublist _ | refine List.Sublist.cons_cons _ ?_ | refine List.Sublist.cons _ ?_ | exact Sbp.refl | exact Sbp.nil | refine Sbp.cons (by repeat (first | exact Rem.head | apply Rem.tail)) ?_ | exact Sbp.app | refine Sbp.skip ?_ | exact List.sublist_append_left _ _ | exact List.sublist_append_right _ _))⟩ | exact ⟨k + 1, by omega, by omega, kn_cons (by rfl) (kn_cons (crN_T hp hq (crE_3 (by assumption) (by assumption) (by assumption))) kn_nil), (by repeat (first | exact List.Sublist.refl _ | exact List.nil_sublist _ | refine List.Sublist.cons_cons _ ?_ | refine List.Sublist.cons _ ?_ | exact Sbp.refl | exact Sbp.nil | refine Sbp.cons (by repeat (first | exact Rem.head | apply Rem.tail)) ?_ | exact Sbp.app | refine Sbp.skip ?_ | exact List.sublist_append_left _ _ | exact List.sublist_append_right _ _))⟩ | exact ⟨k + 1, by omega, by omega, kn_cons (by rfl) (kn_cons (crN_F hp hq (crE_2 (by assumption) (by assumption) (by assumption))) kn_nil), (by repeat (first | exact List.Sublist.refl _ | exact List.nil_sublist _ | refine List.Sublist.cons_cons _ ?_ | refine List.Sublist.cons _ ?_ | exact Sbp.refl | exact Sbp.nil | refine Sbp.cons (by repeat (first | exact Rem.head | apply Rem.tail)) ?_ | exact Sbp.app | refine Sbp.skip ?_ | exact List.sublist_append_left _ _ | exact List.sublist_append_right _ _))⟩ | exact ⟨k + 1, by omega, by omega, kn_cons (by rfl) (kn_cons (crN_F hp hq (crE_4 (by assumption) (by assumption) (by assumption))) kn_nil), (by repeat (first | exact List.Sublist.refl _ | exact List.nil_sublist _ | refine List.Sublist.cons_cons _ ?_ | refine List.Sublist.cons _ ?_ | exact Sbp.refl | exact Sbp.nil | refine Sbp.cons (by repeat (first | exact Rem.head | apply Rem.tail)) ?_ | exact Sbp.app | refine Sbp.skip ?_ | exact List.sublist_append_left _ _ | exact List.sublist_append_right _ _))⟩ | exact ⟨k + 1, by omega, by omega, kn_cons (by rfl) (kn_cons (crN_F hp hq (crE_e (by assumption))) kn_nil), (by repeat (first | exact List.Sublist.refl _ | exact List.nil_sublist _ | refine List.Sublist.cons_cons _ ?_ | refine List.Sublist.cons _ ?_ | exact Sbp.refl | exact Sbp.nil | refine Sbp.cons (by repeat (first | exact Rem.head | apply Rem.tail)) ?_ | exact Sbp.app | refine Sbp.skip ?_ | exact List.sublist_append_left _ _ | exact List.sublist_append_right _ _))⟩ | (exfalso; omega)
          · have hb6p := of_decide_eq_false hb6
            refine RS.off (dj := 73) rfl (.inl (congrArg Value.bool hb6)) (fun _ => rfl) rfl ?_
            refine RS.off (dj := 73) rfl (.inl (congrArg Value.bool hb6)) (fun _ => rfl) rfl ?_
            refine RS.off (dj := 73) rfl (.inl (congrArg Value.bool hb6)) (fun _ => rfl) rfl ?_
            refine RS.on (dj := 67) rfl (congrArg Value.bool rfl) ?_
            refine RS.q rfl (QO.pickF (by rfl) hb6 (by rfl)) ?_
            refine RS.q rfl (QO.pickF (by rfl) rfl (by rfl)) ?_
            refine RS.nil ?_
            refine thenC_n ?_
            refine CS.condF (by rfl) rfl ?_
            refine CS.skip ?_
            refine blockC_n ?_
            refine thenC_n ?_
            refine CS.region ?_
            first | (refine RS.q rfl (QO.add (by rfl) (by rfl) (by omega) (by omega)) ?_) | (refine RS.q rfl (QO.ibin (by rfl) (by rfl) trivial) ?_)
            refine RS.q rfl (QO.move) ?_
            refine RS.nil ?_
            refine loopQ_n (by intro t ht; repeat (first | with_reducible exact rfl | exact frame_puts ht (frame_mix ht) _ rfl | (refine frame_put rfl ht ?_) | (refine frame_puts ht ?_ _ rfl) | exact frame_mix ht | (refine frame_mix2 rfl ht ?_) | exact rfl)) ?_
            first | exact ⟨k + 1, by omega, by omega, kn_cons (by rfl) (kn_cons (crN_T hp hq (crE_1 (by assumption) (by assumption) (by assumption))) kn_nil), (by repeat (first | exact List.Sublist.refl _ | exact List.nil_sublist _ | refine List.Sublist.cons_cons _ ?_ | refine List.Sublist.cons _ ?_ | exact Sbp.refl | exact Sbp.nil | refine Sbp.cons (by repeat (first | exact Rem.head | apply Rem.tail)) ?_ | exact Sbp.app | refine Sbp.skip ?_ | exact List.sublist_append_left _ _ | exact List.sublist_append_right _ _))⟩ | exact ⟨k + 1, by omega, by omega, kn_cons (by rfl) (kn_cons (crN_T hp hq (crE_3 (by assumption) (by assumption) (by assumption))) kn_nil), (by repeat (first | exact List.Sublist.refl _ | exact List.nil_sublist _ | refine List.Sublist.cons_cons _ ?_ | refine List.Sublist.cons _ ?_ | exact Sbp.refl | exact Sbp.nil | refine Sbp.cons (by repeat (first | exact Rem.head | apply Rem.tail)) ?_ | exact Sbp.app | refine Sbp.skip ?_ | exact List.sublist_append_left _ _ | exact List.sublist_append_right _ _))⟩ | exact ⟨k + 1, by omega, by omega, kn_cons (by rfl) (kn_cons (crN_F hp hq (crE_2 (by assumption) (by assumption) (by assumption))) kn_nil), (by repeat (first | exact List.Sublist.refl _ | exact List.nil_sublist _ | refine List.Sublist.cons_cons _ ?_ | refine List.Sublist.cons _ ?_ | exact Sbp.refl | exact Sbp.nil | refine Sbp.cons (by repeat (first | exact Rem.head | apply Rem.tail)) ?_ | exact Sbp.app | refine Sbp.skip ?_ | exact List.sublist_append_left _ _ | exact List.sublist_append_right _ _))⟩ | exact ⟨k + 1, by omega, by omega, kn_cons (by rfl) (kn_cons (crN_F hp hq (crE_4 (by assumption) (by assumption) (by assumption))) kn_nil), (by repeat (first | exact List.Sublist.refl _ | exact List.nil_sublist _ | refine List.Sublist.cons_cons _ ?_ | refine List.Sublist.cons _ ?_ | exact Sbp.refl | exact Sbp.nil | refine Sbp.cons (by repeat (first | exact Rem.head | apply Rem.tail)) ?_ | exact Sbp.app | refine Sbp.skip ?_ | exact List.sublist_append_left _ _ | exact List.sublist_append_right _ _))⟩ | exact ⟨k + 1, by omega, by omega, kn_cons (by rfl) (kn_cons (crN_F hp hq (crE_e (by assumption))) kn_nil), (by repeat (first | exact List.Sublist.refl _ | exact List.nil_sublist _ | refine List.Sublist.cons_cons _ ?_ | refine List.Sublist.cons _ ?_ | exact Sbp.refl | exact Sbp.nil | refine Sbp.cons (by repeat (first | exact Rem.head | apply Rem.tail)) ?_ | exact Sbp.app | refine Sbp.skip ?_ | exact List.sublist_append_left _ _ | exact List.sublist_append_right _ _))⟩ | (exfalso; omega)
    · have hb0p := of_decide_eq_false hb0
      refine CS.exit ?_
      refine thenC_x ?_
      refine loopQ_x ?_
      refine blockC_x ?_
      refine thenC_n ?_
      refine CS.seq ?_
      refine CS.region ?_
      refine RS.q rfl (QO.move) ?_
      refine RS.q rfl (QO.assign) ?_
      refine RS.nil ?_
      refine thenC_n ?_
      refine CS.ret ?_
      refine retQ.mk (H' := []) (.inr rfl) (RVs.tmp (by rfl) RVs.nil) (List.nil_sublist _) ?_
      obtain rfl : k = l.length := by omega
      exact ⟨rfl, rfl⟩

end Go.Proofs.Ytapcgokcfmklbaa

namespace Go.Proofs.Ytapcgokcfmklbaa
open Go Go.Proofs Go.RowKit

theorem ok90 : callOK Try.prog 90 = true := by kernel_rfl
theorem ok133 : callOK Try.prog 133 = true := by kernel_rfl
theorem ok134 : callOK Try.prog 134 = true := by kernel_rfl
theorem ok135 : callOK Try.prog 135 = true := by kernel_rfl
theorem ok136 : callOK Try.prog 136 = true := by kernel_rfl

section
variable {P : Program} {W : World} {H : HL} {e : Env} {x y : Operand} {t t' ty : TypeId}
/-- taking away where there is a difference -/
theorem QO.fsubS {i j r : Nat} (hx : ev e x = .float .f32 i) (hy : ev e y = .float .f32 j) (h : fop .sub i j = some r) : QO P W H e (.binOp .sub t x y t') ty (.float .f32 r) := by
  refine QO.bin hx hy (fun w => ?_)
  have h1 : (eqGuard .sub t x y (.float .f32 i) (.float .f32 j)).run P w = .ok () w := by simp [eqGuard]
  have h2 : Ieee.single.sub i j = some r := h
  simp only [Sem.run_bind, h1, Result.andThen_ok]
  simp [binOp, Op.floatArith, FloatKind.format, h2]
end

set_option maxHeartbeats 4000000 in
set_option maxRecDepth 100000 in
theorem covBox (u : Win) (A : Option Addr) (c : Nat) (x y p q : Int) (W : World) (hA : PS W A u.pts) (he : winE u = 0) (hp : fop .sub (cvF x) u.x = some (cvF p)) (hq : fop .sub (cvF y) u.y = some (cvF q)) (hp24 : p.natAbs ≤ 16777215) (hq24 : q.natAbs ≤ 16777215) (hx : x.natAbs ≤ 4194304) (hy : y.natAbs ≤ 4194304) (hk : u.kind = 1) : Fn_ Try.prog 90 #[.agg #[iv u.kind, flt u.x, flt u.y, flt u.w, flt u.h, flt u.soft, .slice A u.pts.length c, .bool u.out], iv x, iv y] W (fun v H => v = flt (covV u p q x y) ∧ H = []) := by
  refine Fn_.intro Try.func90 rfl rfl (by rfl) ?_
  refine CS.seq ?_
  refine CS.region ?_
  refine RS.box rfl (by rfl) (by rfl) ?_
  intro g3
  refine RS.q rfl (QO.assign) ?_
  refine RS.nil ?_
  refine thenC_n ?_
  refine CS.seq ?_
  refine CS.region ?_
  refine RS.q rfl (QO.assign) ?_
  refine RS.nil ?_
  refine thenC_n ?_
  refine CS.seq ?_
  refine CS.seq ?_
  refine CS.draw 12 rfl (by kernel_rfl) (by kernel_rfl) ?_
  refine RT.take (i := 0) rfl (by kernel_rfl) rfl (QO.move) ?_
  refine RT.take (i := 1) rfl (by kernel_rfl) rfl (QO.conv_i64_f32 Try.underlying3 Try.underlying29 (by rfl)) ?_
  refine RT.take (i := 2) rfl (by kernel_rfl) rfl (QO.fieldAddr fo61_1 (by rfl)) ?_
  first | (refine RT.take (i := 3) rfl (by kernel_rfl) rfl (QO.load ty29 (by rfl) (by repeat (first | exact List.Mem.head _ | refine List.Mem.tail _ ?_)) (by rfl)) ?_) | (refine RT.take (i := 3) rfl (by kernel_rfl) rfl (QO.loadO ty29 (by rfl) (by assumption)) ?_) | (refine RT.take (i := 3) rfl (by kernel_rfl) rfl (QO.load ty29 (by rfl) (by repeat (first | exact List.Mem.head _ | refine List.Mem.tail _ ?_)) (by assumption)) ?_)
  refine RT.take (i := 4) rfl (by kernel_rfl) rfl (QO.fsubS (by rfl) (by rfl) hp) ?_
  refine RT.take (i := 5) rfl (by kernel_rfl) rfl (QO.move) ?_
  refine RT.take (i := 6) rfl (by kernel_rfl) rfl (QO.conv_i64_f32 Try.underlying3 Try.underlying29 (by rfl)) ?_
  refine RT.take (i := 7) rfl (by kernel_rfl) rfl (QO.fieldAddr fo61_2 (by rfl)) ?_
  first | (refine RT.take (i := 8) rfl (by kernel_rfl) rfl (QO.load ty29 (by rfl) (by repeat (first | exact List.Mem.head _ | refine List.Mem.tail _ ?_)) (by rfl)) ?_) | (refine RT.take (i := 8) rfl (by kernel_rfl) rfl (QO.loadO ty29 (by rfl) (by assumption)) ?_) | (refine RT.take (i := 8) rfl (by kernel_rfl) rfl (QO.load ty29 (by rfl) (by repeat (first | exact List.Mem.head _ | refine List.Mem.tail _ ?_)) (by assumption)) ?_)
  refine RT.take (i := 9) rfl (by kernel_rfl) rfl (QO.fsubS (by rfl) (by rfl) hq) ?_
  refine RT.take (i := 10) rfl (by kernel_rfl) rfl (QO.assign) ?_
  refine RT.take (i := 11) rfl (by kernel_rfl) rfl (QO.assign) ?_
  refine RT.done (by kernel_rfl) ?_
  refine thenC_n ?_
  refine CS.seq ?_
  refine CS.region ?_
  refine RS.q rfl (QO.fieldAddr fo61_0 (by rfl)) ?_
  first | (refine RS.q rfl (QO.load ty3 (by rfl) (by repeat (first | exact List.Mem.head _ | refine List.Mem.tail _ ?_)) (by rfl)) ?_) | (refine RS.q rfl (QO.loadO ty3 (by rfl) (by assumption)) ?_) | (refine RS.q rfl (QO.load ty3 (by rfl) (by repeat (first | exact List.Mem.head _ | refine List.Mem.tail _ ?_)) (by assumption)) ?_)
  refine RS.nil ?_
  refine thenC_n ?_
  refine CS.block ?_
  refine CS.seq ?_
  refine CS.region ?_
  refine RS.qv rfl (QO.eql (by rfl) (by rfl)) (congrArg Value.bool (show (u.kind == 1) = true from beq_iff_eq.2 hk)) ?_
  refine RS.q rfl (QO.assign) ?_
  refine RS.nil ?_
  refine thenC_n ?_
  refine CS.condT (by rfl) rfl ?_
  refine CS.seq ?_
  refine CS.draw 12 rfl (by kernel_rfl) (by kernel_rfl) ?_
  refine RT.take (i := 0) rfl (by kernel_rfl) rfl (QO.move) ?_
  refine RT.take (i := 2) rfl (by kernel_rfl) rfl (QO.fieldAddr fo61_3 (by rfl)) ?_
  first | (refine RT.take (i := 3) rfl (by kernel_rfl) rfl (QO.load ty29 (by rfl) (by repeat (first | exact List.Mem.head _ | refine List.Mem.tail _ ?_)) (by rfl)) ?_) | (refine RT.take (i := 3) rfl (by kernel_rfl) rfl (QO.loadO ty29 (by rfl) (by assumption)) ?_) | (refine RT.take (i := 3) rfl (by kernel_rfl) rfl (QO.load ty29 (by rfl) (by repeat (first | exact List.Mem.head _ | refine List.Mem.tail _ ?_)) (by assumption)) ?_)
  refine RT.take (i := 5) rfl (by kernel_rfl) rfl (QO.move) ?_
  refine RT.take (i := 7) rfl (by kernel_rfl) rfl (QO.fieldAddr fo61_4 (by rfl)) ?_
  first | (refine RT.take (i := 8) rfl (by kernel_rfl) rfl (QO.load ty29 (by rfl) (by repeat (first | exact List.Mem.head _ | refine List.Mem.tail _ ?_)) (by rfl)) ?_) | (refine RT.take (i := 8) rfl (by kernel_rfl) rfl (QO.loadO ty29 (by rfl) (by assumption)) ?_) | (refine RT.take (i := 8) rfl (by kernel_rfl) rfl (QO.load ty29 (by rfl) (by repeat (first | exact List.Mem.head _ | refine List.Mem.tail _ ?_)) (by assumption)) ?_)
  refine RT.one (i := 1) (by kernel_rfl) rfl rfl ?_
  refine RS.call rfl (by rfl) ok133 (by rfl) (fun w ho => absW p _ hp24) ?_
  rintro _ _ ⟨rfl, rfl⟩
  refine RS.nil ⟨(by repeat (first | exact List.Sublist.refl _ | exact List.nil_sublist _ | refine List.Sublist.cons_cons _ ?_ | refine List.Sublist.cons _ ?_ | exact Sbp.refl | exact Sbp.nil | refine Sbp.cons (by repeat (first | exact Rem.head | apply Rem.tail)) ?_ | exact Sbp.app | refine Sbp.skip ?_ | exact List.sublist_append_left _ _ | exact List.sublist_append_right _ _)), ?_⟩
  refine RT.two (i := 4) (j := 6) (by kernel_rfl) rfl rfl ?_ ?_
  · refine RS.farith rfl (by rfl) (by rfl) (by simp) ?_
    intro r41 hr41
    refine RS.nil ⟨(by repeat (first | exact List.Sublist.refl _ | exact List.nil_sublist _ | refine List.Sublist.cons_cons _ ?_ | refine List.Sublist.cons _ ?_ | exact Sbp.refl | exact Sbp.nil | refine Sbp.cons (by repeat (first | exact Rem.head | apply Rem.tail)) ?_ | exact Sbp.app | refine Sbp.skip ?_ | exact List.sublist_append_left _ _ | exact List.sublist_append_right _ _)), ?_⟩
    refine RT.one (i := 6) (by kernel_rfl) rfl rfl ?_
    refine RS.call rfl (by rfl) ok133 (by rfl) (fun w ho => absW q _ hq24) ?_
    rintro _ _ ⟨rfl, rfl⟩
    refine RS.nil ⟨(by repeat (first | exact List.Sublist.refl _ | exact List.nil_sublist _ | refine List.Sublist.cons_cons _ ?_ | refine List.Sublist.cons _ ?_ | exact Sbp.refl | exact Sbp.nil | refine Sbp.cons (by repeat (first | exact Rem.head | apply Rem.tail)) ?_ | exact Sbp.app | refine Sbp.skip ?_ | exact List.sublist_append_left _ _ | exact List.sublist_append_right _ _)), ?_⟩
    refine RT.take (i := 10) rfl (by kernel_rfl) rfl (QO.assign) ?_
    refine RT.one (i := 9) (by kernel_rfl) rfl rfl ?_
    refine RS.farith rfl (by rfl) (by rfl) (by simp) ?_
    intro r46 hr46
    refine RS.nil ⟨(by repeat (first | exact List.Sublist.refl _ | exact List.nil_sublist _ | refine List.Sublist.cons_cons _ ?_ | refine List.Sublist.cons _ ?_ | exact Sbp.refl | exact Sbp.nil | refine Sbp.cons (by repeat (first | exact Rem.head | apply Rem.tail)) ?_ | exact Sbp.app | refine Sbp.skip ?_ | exact List.sublist_append_left _ _ | exact List.sublist_append_right _ _)), ?_⟩
    refine RT.take (i := 11) rfl (by kernel_rfl) rfl (QO.assign) ?_
    refine RT.done (by kernel_rfl) ?_
    refine thenC_n ?_
    refine CS.seq ?_
    refine CS.seq ?_
    refine CS.region ?_
    refine RS.q rfl (QO.move) ?_
    refine RS.q rfl (QO.move) ?_
    refine RS.q rfl (QO.fcmp32 (by rfl) (by rfl) (by simp)) ?_
    refine RS.nil ?_
    refine thenC_n ?_
    refine CS.cond (by rfl) (fun hb0 => ?_) (fun hb0 => ?_)
    · refine CS.region ?_
      refine RS.q rfl (QO.move) ?_
      refine RS.q rfl (QO.assign) ?_
      refine RS.nil ?_
      refine thenC_n ?_
      refine CS.region ?_
      refine RS.q rfl (QO.move) ?_
      refine RS.q rfl (QO.fieldAddr fo61_5 (by rfl)) ?_
      first | (refine RS.q rfl (QO.load ty29 (by rfl) (by repeat (first | exact List.Mem.head _ | refine List.Mem.tail _ ?_)) (by rfl)) ?_) | (refine RS.q rfl (QO.loadO ty29 (by rfl) (by assumption)) ?_) | (refine RS.q rfl (QO.load ty29 (by rfl) (by repeat (first | exact List.Mem.head _ | refine List.Mem.tail _ ?_)) (by assumption)) ?_)
      refine RS.call rfl (by rfl) ok134 (by rfl) (fun w ho => edge_ _ _ _) ?_
      rintro _ _ ⟨e54, rfl, he54, rfl⟩
      refine RS.q rfl (QO.assign) ?_
      refine RS.nil ?_
      refine blockC_n ?_
      refine thenC_n ?_
      refine CS.seq ?_
      refine CS.seq ?_
      refine CS.region ?_
      refine RS.q rfl (QO.fieldAddr fo61_7 (by rfl)) ?_
      first | (refine RS.q rfl (QO.load ty4 (by rfl) (by repeat (first | exact List.Mem.head _ | refine List.Mem.tail _ ?_)) (by rfl)) ?_) | (refine RS.q rfl (QO.loadO ty4 (by rfl) (by assumption)) ?_) | (refine RS.q rfl (QO.load ty4 (by rfl) (by repeat (first | exact List.Mem.head _ | refine List.Mem.tail _ ?_)) (by assumption)) ?_)
      refine RS.nil ?_
      refine thenC_n ?_
      refine CS.cond (by rfl) (fun hb1 => ?_) (fun hb1 => ?_)
      · refine CS.region ?_
        refine RS.q rfl (QO.move) ?_
        refine RS.farith rfl (by rfl) (by rfl) (by simp) ?_
        intro r93 hr93
        refine RS.q rfl (QO.assign) ?_
        refine RS.nil ?_
        refine thenC_n ?_
        refine CS.seq ?_
        refine CS.region ?_
        refine RS.q rfl (QO.move) ?_
        refine RS.call rfl (by rfl) ok57 (by rfl) (fun w ho => clean _ _) ?_
        rintro _ _ ⟨rfl, rfl⟩
        refine RS.q rfl (QO.assign) ?_
        refine RS.nil ?_
        refine thenC_n ?_
        refine CS.ret ?_
        refine retQ.mk (H' := []) (.inr rfl) (RVs.tmp (by rfl) RVs.nil) (List.nil_sublist _) ?_
        first | exact ⟨congrArg flt ((turn_T (by assumption) hr93 (box_1 hr41 hr46 (by assumption) he54)).trans (cov_b hk)), rfl⟩ | exact ⟨congrArg flt ((turn_F (by assumption) (box_1 hr41 hr46 (by assumption) he54)).trans (cov_b hk)), rfl⟩ | exact ⟨congrArg flt ((turn_T (by assumption) hr93 (box_2 hr41 hr46 (by assumption) he54)).trans (cov_b hk)), rfl⟩ | exact ⟨congrArg flt ((turn_F (by assumption) (box_2 hr41 hr46 (by assumption) he54)).trans (cov_b hk)), rfl⟩
      · refine CS.skip ?_
        refine thenC_n ?_
        refine CS.seq ?_
        refine CS.region ?_
        refine RS.q rfl (QO.move) ?_
        refine RS.call rfl (by rfl) ok57 (by rfl) (fun w ho => clean _ _) ?_
        rintro _ _ ⟨rfl, rfl⟩
        refine RS.q rfl (QO.assign) ?_
        refine RS.nil ?_
        refine thenC_n ?_
        refine CS.ret ?_
        refine retQ.mk (H' := []) (.inr rfl) (RVs.tmp (by rfl) RVs.nil) (List.nil_sublist _) ?_
        first | exact ⟨congrArg flt ((turn_T (by assumption) hr93 (box_1 hr41 hr46 (by assumption) he54)).trans (cov_b hk)), rfl⟩ | exact ⟨congrArg flt ((turn_F (by assumption) (box_1 hr41 hr46 (by assumption) he54)).trans (cov_b hk)), rfl⟩ | exact ⟨congrArg flt ((turn_T (by assumption) hr93 (box_2 hr41 hr46 (by assumption) he54)).trans (cov_b hk)), rfl⟩ | exact ⟨congrArg flt ((turn_F (by assumption) (box_2 hr41 hr46 (by assumption) he54)).trans (cov_b hk)), rfl⟩
    · refine CS.skip ?_
      refine thenC_n ?_
      refine CS.region ?_
      refine RS.q rfl (QO.move) ?_
      refine RS.q rfl (QO.fieldAddr fo61_5 (by rfl)) ?_
      first | (refine RS.q rfl (QO.load ty29 (by rfl) (by repeat (first | exact List.Mem.head _ | refine List.Mem.tail _ ?_)) (by rfl)) ?_) | (refine RS.q rfl (QO.loadO ty29 (by rfl) (by assumption)) ?_) | (refine RS.q rfl (QO.load ty29 (by rfl) (by repeat (first | exact List.Mem.head _ | refine List.Mem.tail _ ?_)) (by assumption)) ?_)
      refine RS.call rfl (by rfl) ok134 (by rfl) (fun w ho => edge_ _ _ _) ?_
      rintro _ _ ⟨e54, rfl, he54, rfl⟩
      refine RS.q rfl (QO.assign) ?_
      refine RS.nil ?_
      refine blockC_n ?_
      refine thenC_n ?_
      refine CS.seq ?_
      refine CS.seq ?_
      refine CS.region ?_
      refine RS.q rfl (QO.fieldAddr fo61_7 (by rfl)) ?_
      first | (refine RS.q rfl (QO.load ty4 (by rfl) (by repeat (first | exact List.Mem.head _ | refine List.Mem.tail _ ?_)) (by rfl)) ?_) | (refine RS.q rfl (QO.loadO ty4 (by rfl) (by assumption)) ?_) | (refine RS.q rfl (QO.load ty4 (by rfl) (by repeat (first | exact List.Mem.head _ | refine List.Mem.tail _ ?_)) (by assumption)) ?_)
      refine RS.nil ?_
      refine thenC_n ?_
      refine CS.cond (by rfl) (fun hb2 => ?_) (fun hb2 => ?_)
      · refine CS.region ?_
        refine RS.q rfl (QO.move) ?_
        refine RS.farith rfl (by rfl) (by rfl) (by simp) ?_
        intro r93 hr93
        refine RS.q rfl (QO.assign) ?_
        refine RS.nil ?_
        refine thenC_n ?_
        refine CS.seq ?_
        refine CS.region ?_
        refine RS.q rfl (QO.move) ?_
        refine RS.call rfl (by rfl) ok57 (by rfl) (fun w ho => clean _ _) ?_
        rintro _ _ ⟨rfl, rfl⟩
        refine RS.q rfl (QO.assign) ?_
        refine RS.nil ?_
        refine thenC_n ?_
        refine CS.ret ?_
        refine retQ.mk (H' := []) (.inr rfl) (RVs.tmp (by rfl) RVs.nil) (List.nil_sublist _) ?_
        first | exact ⟨congrArg flt ((turn_T (by assumption) hr93 (box_1 hr41 hr46 (by assumption) he54)).trans (cov_b hk)), rfl⟩ | exact ⟨congrArg flt ((turn_F (by assumption) (box_1 hr41 hr46 (by assumption) he54)).trans (cov_b hk)), rfl⟩ | exact ⟨congrArg flt ((turn_T (by assumption) hr93 (box_2 hr41 hr46 (by assumption) he54)).trans (cov_b hk)), rfl⟩ | exact ⟨congrArg flt ((turn_F (by assumption) (box_2 hr41 hr46 (by assumption) he54)).trans (cov_b hk)), rfl⟩
      · refine CS.skip ?_
        refine thenC_n ?_
        refine CS.seq ?_
        refine CS.region ?_
        refine RS.q rfl (QO.move) ?_
        refine RS.call rfl (by rfl) ok57 (by rfl) (fun w ho => clean _ _) ?_
        rintro _ _ ⟨rfl, rfl⟩
        refine RS.q rfl (QO.assign) ?_
        refine RS.nil ?_
        refine thenC_n ?_
        refine CS.ret ?_
        refine retQ.mk (H' := []) (.inr rfl) (RVs.tmp (by rfl) RVs.nil) (List.nil_sublist _) ?_
        first | exact ⟨congrArg flt ((turn_T (by assumption) hr93 (box_1 hr41 hr46 (by assumption) he54)).trans (cov_b hk)), rfl⟩ | exact ⟨congrArg flt ((turn_F (by assumption) (box_1 hr41 hr46 (by assumption) he54)).trans (cov_b hk)), rfl⟩ | exact ⟨congrArg flt ((turn_T (by assumption) hr93 (box_2 hr41 hr46 (by assumption) he54)).trans (cov_b hk)), rfl⟩ | exact ⟨congrArg flt ((turn_F (by assumption) (box_2 hr41 hr46 (by assumption) he54)).trans (cov_b hk)), rfl⟩
  · refine RS.call rfl (by rfl) ok133 (by rfl) (fun w ho => absW q _ hq24) ?_
    rintro _ _ ⟨rfl, rfl⟩
    refine RS.nil ⟨(by repeat (first | exact List.Sublist.refl _ | exact List.nil_sublist _ | refine List.Sublist.cons_cons _ ?_ | refine List.Sublist.cons _ ?_ | exact Sbp.refl | exact Sbp.nil | refine Sbp.cons (by repeat (first | exact Rem.head | apply Rem.tail)) ?_ | exact Sbp.app | refine Sbp.skip ?_ | exact List.sublist_append_left _ _ | exact List.sublist_append_right _ _)), ?_⟩
    refine RT.two (i := 4) (j := 9) (by kernel_rfl) rfl rfl ?_ ?_
    · refine RS.farith rfl (by rfl) (by rfl) (by simp) ?_
      intro r41 hr41
      refine RS.nil ⟨(by repeat (first | exact List.Sublist.refl _ | exact List.nil_sublist _ | refine List.Sublist.cons_cons _ ?_ | refine List.Sublist.cons _ ?_ | exact Sbp.refl | exact Sbp.nil | refine Sbp.cons (by repeat (first | exact Rem.head | apply Rem.tail)) ?_ | exact Sbp.app | refine Sbp.skip ?_ | exact List.sublist_append_left _ _ | exact List.sublist_append_right _ _)), ?_⟩
      refine RT.take (i := 10) rfl (by kernel_rfl) rfl (QO.assign) ?_
      refine RT.one (i := 9) (by kernel_rfl) rfl rfl ?_
      refine RS.farith rfl (by rfl) (by rfl) (by simp) ?_
      intro r46 hr46
      refine RS.nil ⟨(by repeat (first | exact List.Sublist.refl _ | exact List.nil_sublist _ | refine List.Sublist.cons_cons _ ?_ | refine List.Sublist.cons _ ?_ | exact Sbp.refl | exact Sbp.nil | refine Sbp.cons (by repeat (first | exact Rem.head | apply Rem.tail)) ?_ | exact Sbp.app | refine Sbp.skip ?_ | exact List.sublist_append_left _ _ | exact List.sublist_append_right _ _)), ?_⟩
      refine RT.take (i := 11) rfl (by kernel_rfl) rfl (QO.assign) ?_
      refine RT.done (by kernel_rfl) ?_
      refine thenC_n ?_
      refine CS.seq ?_
      refine CS.seq ?_
      refine CS.region ?_
      refine RS.q rfl (QO.move) ?_
      refine RS.q rfl (QO.move) ?_
      refine RS.q rfl (QO.fcmp32 (by rfl) (by rfl) (by simp)) ?_
      refine RS.nil ?_
      refine thenC_n ?_
      refine CS.cond (by rfl) (fun hb3 => ?_) (fun hb3 => ?_)
      · refine CS.region ?_
        refine RS.q rfl (QO.move) ?_
        refine RS.q rfl (QO.assign) ?_
        refine RS.nil ?_
        refine thenC_n ?_
        refine CS.region ?_
        refine RS.q rfl (QO.move) ?_
        refine RS.q rfl (QO.fieldAddr fo61_5 (by rfl)) ?_
        first | (refine RS.q rfl (QO.load ty29 (by rfl) (by repeat (first | exact List.Mem.head _ | refine List.Mem.tail _ ?_)) (by rfl)) ?_) | (refine RS.q rfl (QO.loadO ty29 (by rfl) (by assumption)) ?_) | (refine RS.q rfl (QO.load ty29 (by rfl) (by repeat (first | exact List.Mem.head _ | refine List.Mem.tail _ ?_)) (by assumption)) ?_)
        refine RS.call rfl (by rfl) ok134 (by rfl) (fun w ho => edge_ _ _ _) ?_
        rintro _ _ ⟨e54, rfl, he54, rfl⟩
        refine RS.q rfl (QO.assign) ?_
        refine RS.nil ?_
        refine blockC_n ?_
        refine thenC_n ?_
        refine CS.seq ?_
        refine CS.seq ?_
        refine CS.region ?_
        refine RS.q rfl (QO.fieldAddr fo61_7 (by rfl)) ?_
        first | (refine RS.q rfl (QO.load ty4 (by rfl) (by repeat (first | exact List.Mem.head _ | refine List.Mem.tail _ ?_)) (by rfl)) ?_) | (refine RS.q rfl (QO.loadO ty4 (by rfl) (by assumption)) ?_) | (refine RS.q rfl (QO.load ty4 (by rfl) (by repeat (first | exact List.Mem.head _ | refine List.Mem.tail _ ?_)) (by assumption)) ?_)
        refine RS.nil ?_
        refine thenC_n ?_
        refine CS.cond (by rfl) (fun hb4 => ?_) (fun hb4 => ?_)
        · refine CS.region ?_
          refine RS.q rfl (QO.move) ?_
          refine RS.farith rfl (by rfl) (by rfl) (by simp) ?_
          intro r93 hr93
          refine RS.q rfl (QO.assign) ?_
          refine RS.nil ?_
          refine thenC_n ?_
          refine CS.seq ?_
          refine CS.region ?_
          refine RS.q rfl (QO.move) ?_
          refine RS.call rfl (by rfl) ok57 (by rfl) (fun w ho => clean _ _) ?_
          rintro _ _ ⟨rfl, rfl⟩
          refine RS.q rfl (QO.assign) ?_
          refine RS.nil ?_
          refine thenC_n ?_
          refine CS.ret ?_
          refine retQ.mk (H' := []) (.inr rfl) (RVs.tmp (by rfl) RVs.nil) (List.nil_sublist _) ?_
          first | exact ⟨congrArg flt ((turn_T (by assumption) hr93 (box_1 hr41 hr46 (by assumption) he54)).trans (cov_b hk)), rfl⟩ | exact ⟨congrArg flt ((turn_F (by assumption) (box_1 hr41 hr46 (by assumption) he54)).trans (cov_b hk)), rfl⟩ | exact ⟨congrArg flt ((turn_T (by assumption) hr93 (box_2 hr41 hr46 (by assumption) he54)).trans (cov_b hk)), rfl⟩ | exact ⟨congrArg flt ((turn_F (by assumption) (box_2 hr41 hr46 (by assumption) he54)).trans (cov_b hk)), rfl⟩
        · refine CS.skip ?_
          refine thenC_n ?_
          refine CS.seq ?_
          refine CS.region ?_
          refine RS.q rfl (QO.move) ?_
          refine RS.call rfl (by rfl) ok57 (by rfl) (fun w ho => clean _ _) ?_
          rintro _ _ ⟨rfl, rfl⟩
          refine RS.q rfl (QO.assign) ?_
          refine RS.nil ?_
          refine thenC_n ?_
          refine CS.ret ?_
          refine retQ.mk (H' := []) (.inr rfl) (RVs.tmp (by rfl) RVs.nil) (List.nil_sublist _) ?_
          first | exact ⟨congrArg flt ((turn_T (by assumption) hr93 (box_1 hr41 hr46 (by assumption) he54)).trans (cov_b hk)), rfl⟩ | exact ⟨congrArg flt ((turn_F (by assumption) (box_1 hr41 hr46 (by assumption) he54)).trans (cov_b hk)), rfl⟩ | exact ⟨congrArg flt ((turn_T (by assumption) hr93 (box_2 hr41 hr46 (by assumption) he54)).trans (cov_b hk)), rfl⟩ | exact ⟨congrArg flt ((turn_F (by assumption) (box_2 hr41 hr46 (by assumption) he54)).trans (cov_b hk)), rfl⟩
      · refine CS.skip ?_
        refine thenC_n ?_
        refine CS.region ?_
        refine RS.q rfl (QO.move) ?_
        refine RS.q rfl (QO.fieldAddr fo61_5 (by rfl)) ?_
        first | (refine RS.q rfl (QO.load ty29 (by rfl) (by repeat (first | exact List.Mem.head _ | refine List.Mem.tail _ ?_)) (by rfl)) ?_) | (refine RS.q rfl (QO.loadO ty29 (by rfl) (by assumption)) ?_) | (refine RS.q rfl (QO.load ty29 (by rfl) (by repeat (first | exact List.Mem.head _ | refine List.Mem.tail _ ?_)) (by assumption)) ?_)
        refine RS.call rfl (by rfl) ok134 (by rfl) (fun w ho => edge_ _ _ _) ?_
        rintro _ _ ⟨e54, rfl, he54, rfl⟩
        refine RS.q rfl (QO.assign) ?_
        refine RS.nil ?_
        refine blockC_n ?_
        refine thenC_n ?_
        refine CS.seq ?_
        refine CS.seq ?_
        refine CS.region ?_
        refine RS.q rfl (QO.fieldAddr fo61_7 (by rfl)) ?_
        first | (refine RS.q rfl (QO.load ty4 (by rfl) (by repeat (first | exact List.Mem.head _ | refine List.Mem.tail _ ?_)) (by rfl)) ?_) | (refine RS.q rfl (QO.loadO ty4 (by rfl) (by assumption)) ?_) | (refine RS.q rfl (QO.load ty4 (by rfl) (by repeat (first | exact List.Mem.head _ | refine List.Mem.tail _ ?_)) (by assumption)) ?_)
        refine RS.nil ?_
        refine thenC_n ?_
        refine CS.cond (by rfl) (fun hb5 => ?_) (fun hb5 => ?_)
        · refine CS.region ?_
          refine RS.q rfl (QO.move) ?_
          refine RS.farith rfl (by rfl) (by rfl) (by simp) ?_
          intro r93 hr93
          refine RS.q rfl (QO.assign) ?_
          refine RS.nil ?_
          refine thenC_n ?_
          refine CS.seq ?_
          refine CS.region ?_
          refine RS.q rfl (QO.move) ?_
          refine RS.call rfl (by rfl) ok57 (by rfl) (fun w ho => clean _ _) ?_
          rintro _ _ ⟨rfl, rfl⟩
          refine RS.q rfl (QO.assign) ?_
          refine RS.nil ?_
          refine thenC_n ?_
          refine CS.ret ?_
          refine retQ.mk (H' := []) (.inr rfl) (RVs.tmp (by rfl) RVs.nil) (List.nil_sublist _) ?_
          first | exact ⟨congrArg flt ((turn_T (by assumption) hr93 (box_1 hr41 hr46 (by assumption) he54)).trans (cov_b hk)), rfl⟩ | exact ⟨congrArg flt ((turn_F (by assumption) (box_1 hr41 hr46 (by assumption) he54)).trans (cov_b hk)), rfl⟩ | exact ⟨congrArg flt ((turn_T (by assumption) hr93 (box_2 hr41 hr46 (by assumption) he54)).trans (cov_b hk)), rfl⟩ | exact ⟨congrArg flt ((turn_F (by assumption) (box_2 hr41 hr46 (by assumption) he54)).trans (cov_b hk)), rfl⟩
        · refine CS.skip ?_
          refine thenC_n ?_
          refine CS.seq ?_
          refine CS.region ?_
          refine RS.q rfl (QO.move) ?_
          refine RS.call rfl (by rfl) ok57 (by rfl) (fun w ho => clean _ _) ?_
          rintro _ _ ⟨rfl, rfl⟩
          refine RS.q rfl (QO.assign) ?_
          refine RS.nil ?_
          refine thenC_n ?_
          refine CS.ret ?_
          refine retQ.mk (H' := []) (.inr rfl) (RVs.tmp (by rfl) RVs.nil) (List.nil_sublist _) ?_
          first | exact ⟨congrArg flt ((turn_T (by assumption) hr93 (box_1 hr41 hr46 (by assumption) he54)).trans (cov_b hk)), rfl⟩ | exact ⟨congrArg flt ((turn_F (by assumption) (box_1 hr41 hr46 (by assumption) he54)).trans (cov_b hk)), rfl⟩ | exact ⟨congrArg flt ((turn_T (by assumption) hr93 (box_2 hr41 hr46 (by assumption) he54)).trans (cov_b hk)), rfl⟩ | exact ⟨congrArg flt ((turn_F (by assumption) (box_2 hr41 hr46 (by assumption) he54)).trans (cov_b hk)), rfl⟩
    · refine RS.farith rfl (by rfl) (by rfl) (by simp) ?_
      intro r46 hr46
      refine RS.nil ⟨(by repeat (first | exact List.Sublist.refl _ | exact List.nil_sublist _ | refine List.Sublist.cons_cons _ ?_ | refine List.Sublist.cons _ ?_ | exact Sbp.refl | exact Sbp.nil | refine Sbp.cons (by repeat (first | exact Rem.head | apply Rem.tail)) ?_ | exact Sbp.app | refine Sbp.skip ?_ | exact List.sublist_append_left _ _ | exact List.sublist_append_right _ _)), ?_⟩
      refine RT.one (i := 4) (by kernel_rfl) rfl rfl ?_
      refine RS.farith rfl (by rfl) (by rfl) (by simp) ?_
      intro r41 hr41
      refine RS.nil ⟨(by repeat (first | exact List.Sublist.refl _ | exact List.nil_sublist _ | refine List.Sublist.cons_cons _ ?_ | refine List.Sublist.cons _ ?_ | exact Sbp.refl | exact Sbp.nil | refine Sbp.cons (by repeat (first | exact Rem.head | apply Rem.tail)) ?_ | exact Sbp.app | refine Sbp.skip ?_ | exact List.sublist_append_left _ _ | exact List.sublist_append_right _ _)), ?_⟩
      refine RT.take (i := 10) rfl (by kernel_rfl) rfl (QO.assign) ?_
      refine RT.take (i := 11) rfl (by kernel_rfl) rfl (QO.assign) ?_
      refine RT.done (by kernel_rfl) ?_
      refine thenC_n ?_
      refine CS.seq ?_
      refine CS.seq ?_
      refine CS.region ?_
      refine RS.q rfl (QO.move) ?_
      refine RS.q rfl (QO.move) ?_
      refine RS.q rfl (QO.fcmp32 (by rfl) (by rfl) (by simp)) ?_
      refine RS.nil ?_
      refine thenC_n ?_
      refine CS.cond (by rfl) (fun hb6 => ?_) (fun hb6 => ?_)
      · refine CS.region ?_
        refine RS.q rfl (QO.move) ?_
        refine RS.q rfl (QO.assign) ?_
        refine RS.nil ?_
        refine thenC_n ?_
        refine CS.region ?_
        refine RS.q rfl (QO.move) ?_
        refine RS.q rfl (QO.fieldAddr fo61_5 (by rfl)) ?_
        first | (refine RS.q rfl (QO.load ty29 (by rfl) (by repeat (first | exact List.Mem.head _ | refine List.Mem.tail _ ?_)) (by rfl)) ?_) | (refine RS.q rfl (QO.loadO ty29 (by rfl) (by assumption)) ?_) | (refine RS.q rfl (QO.load ty29 (by rfl) (by repeat (first | exact List.Mem.head _ | refine List.Mem.tail _ ?_)) (by assumption)) ?_)
        refine RS.call rfl (by rfl) ok134 (by rfl) (fun w ho => edge_ _ _ _) ?_
        rintro _ _ ⟨e54, rfl, he54, rfl⟩
        refine RS.q rfl (QO.assign) ?_
        refine RS.nil ?_
        refine blockC_n ?_
        refine thenC_n ?_
        refine CS.seq ?_
        refine CS.seq ?_
        refine CS.region ?_
        refine RS.q rfl (QO.fieldAddr fo61_7 (by rfl)) ?_
        first | (refine RS.q rfl (QO.load ty4 (by rfl) (by repeat (first | exact List.Mem.head _ | refine List.Mem.tail _ ?_)) (by rfl)) ?_) | (refine RS.q rfl (QO.loadO ty4 (by rfl) (by assumption)) ?_) | (refine RS.q rfl (QO.load ty4 (by rfl) (by repeat (first | exact List.Mem.head _ | refine List.Mem.tail _ ?_)) (by assumption)) ?_)
        refine RS.nil ?_
        refine thenC_n ?_
        refine CS.cond (by rfl) (fun hb7 => ?_) (fun hb7 => ?_)
        · refine CS.region ?_
          refine RS.q rfl (QO.move) ?_
          refine RS.farith rfl (by rfl) (by rfl) (by simp) ?_
          intro r93 hr93
          refine RS.q rfl (QO.assign) ?_
          refine RS.nil ?_
          refine thenC_n ?_
          refine CS.seq ?_
          refine CS.region ?_
          refine RS.q rfl (QO.move) ?_
          refine RS.call rfl (by rfl) ok57 (by rfl) (fun w ho => clean _ _) ?_
          rintro _ _ ⟨rfl, rfl⟩
          refine RS.q rfl (QO.assign) ?_
          refine RS.nil ?_
          refine thenC_n ?_
          refine CS.ret ?_
          refine retQ.mk (H' := []) (.inr rfl) (RVs.tmp (by rfl) RVs.nil) (List.nil_sublist _) ?_
          first | exact ⟨congrArg flt ((turn_T (by assumption) hr93 (box_1 hr41 hr46 (by assumption) he54)).trans (cov_b hk)), rfl⟩ | exact ⟨congrArg flt ((turn_F (by assumption) (box_1 hr41 hr46 (by assumption) he54)).trans (cov_b hk)), rfl⟩ | exact ⟨congrArg flt ((turn_T (by assumption) hr93 (box_2 hr41 hr46 (by assumption) he54)).trans (cov_b hk)), rfl⟩ | exact ⟨congrArg flt ((turn_F (by assumption) (box_2 hr41 hr46 (by assumption) he54)).trans (cov_b hk)), rfl⟩
        · refine CS.skip ?_
          refine thenC_n ?_
          refine CS.seq ?_
          refine CS.region ?_
          refine RS.q rfl (QO.move) ?_
          refine RS.call rfl (by rfl) ok57 (by rfl) (fun w ho => clean _ _) ?_
          rintro _ _ ⟨rfl, rfl⟩
          refine RS.q rfl (QO.assign) ?_
          refine RS.nil ?_
          refine thenC_n ?_
          refine CS.ret ?_
          refine retQ.mk (H' := []) (.inr rfl) (RVs.tmp (by rfl) RVs.nil) (List.nil_sublist _) ?_
          first | exact ⟨congrArg flt ((turn_T (by assumption) hr93 (box_1 hr41 hr46 (by assumption) he54)).trans (cov_b hk)), rfl⟩ | exact ⟨congrArg flt ((turn_F (by assumption) (box_1 hr41 hr46 (by assumption) he54)).trans (cov_b hk)), rfl⟩ | exact ⟨congrArg flt ((turn_T (by assumption) hr93 (box_2 hr41 hr46 (by assumption) he54)).trans (cov_b hk)), rfl⟩ | exact ⟨congrArg flt ((turn_F (by assumption) (box_2 hr41 hr46 (by assumption) he54)).trans (cov_b hk)), rfl⟩
      · refine CS.skip ?_
        refine thenC_n ?_
        refine CS.region ?_
        refine RS.q rfl (QO.move) ?_
        refine RS.q rfl (QO.fieldAddr fo61_5 (by rfl)) ?_
        first | (refine RS.q rfl (QO.load ty29 (by rfl) (by repeat (first | exact List.Mem.head _ | refine List.Mem.tail _ ?_)) (by rfl)) ?_) | (refine RS.q rfl (QO.loadO ty29 (by rfl) (by assumption)) ?_) | (refine RS.q rfl (QO.load ty29 (by rfl) (by repeat (first | exact List.Mem.head _ | refine List.Mem.tail _ ?_)) (by assumption)) ?_)
        refine RS.call rfl (by rfl) ok134 (by rfl) (fun w ho => edge_ _ _ _) ?_
        rintro _ _ ⟨e54, rfl, he54, rfl⟩
        refine RS.q rfl (QO.assign) ?_
        refine RS.nil ?_
        refine blockC_n ?_
        refine thenC_n ?_
        refine CS.seq ?_
        refine CS.seq ?_
        refine CS.region ?_
        refine RS.q rfl (QO.fieldAddr fo61_7 (by rfl)) ?_
        first | (refine RS.q rfl (QO.load ty4 (by rfl) (by repeat (first | exact List.Mem.head _ | refine List.Mem.tail _ ?_)) (by rfl)) ?_) | (refine RS.q rfl (QO.loadO ty4 (by rfl) (by assumption)) ?_) | (refine RS.q rfl (QO.load ty4 (by rfl) (by repeat (first | exact List.Mem.head _ | refine List.Mem.tail _ ?_)) (by assumption)) ?_)
        refine RS.nil ?_
        refine thenC_n ?_
        refine CS.cond (by rfl) (fun hb8 => ?_) (fun hb8 => ?_)
        · refine CS.region ?_
          refine RS.q rfl (QO.move) ?_
          refine RS.farith rfl (by rfl) (by rfl) (by simp) ?_
          intro r93 hr93
          refine RS.q rfl (QO.assign) ?_
          refine RS.nil ?_
          refine thenC_n ?_
          refine CS.seq ?_
          refine CS.region ?_
          refine RS.q rfl (QO.move) ?_
          refine RS.call rfl (by rfl) ok57 (by rfl) (fun w ho => clean _ _) ?_
          rintro _ _ ⟨rfl, rfl⟩
          refine RS.q rfl (QO.assign) ?_
          refine RS.nil ?_
          refine thenC_n ?_
          refine CS.ret ?_
          refine retQ.mk (H' := []) (.inr rfl) (RVs.tmp (by rfl) RVs.nil) (List.nil_sublist _) ?_
          first | exact ⟨congrArg flt ((turn_T (by assumption) hr93 (box_1 hr41 hr46 (by assumption) he54)).trans (cov_b hk)), rfl⟩ | exact ⟨congrArg flt ((turn_F (by assumption) (box_1 hr41 hr46 (by assumption) he54)).trans (cov_b hk)), rfl⟩ | exact ⟨congrArg flt ((turn_T (by assumption) hr93 (box_2 hr41 hr46 (by assumption) he54)).trans (cov_b hk)), rfl⟩ | exact ⟨congrArg flt ((turn_F (by assumption) (box_2 hr41 hr46 (by assumption) he54)).trans (cov_b hk)), rfl⟩
        · refine CS.skip ?_
          refine thenC_n ?_
          refine CS.seq ?_
          refine CS.region ?_
          refine RS.q rfl (QO.move) ?_
          refine RS.call rfl (by rfl) ok57 (by rfl) (fun w ho => clean _ _) ?_
          rintro _ _ ⟨rfl, rfl⟩
          refine RS.q rfl (QO.assign) ?_
          refine RS.nil ?_
          refine thenC_n ?_
          refine CS.ret ?_
          refine retQ.mk (H' := []) (.inr rfl) (RVs.tmp (by rfl) RVs.nil) (List.nil_sublist _) ?_
          first | exact ⟨congrArg flt ((turn_T (by assumption) hr93 (box_1 hr41 hr46 (by assumption) he54)).trans (cov_b hk)), rfl⟩ | exact ⟨congrArg flt ((turn_F (by assumption) (box_1 hr41 hr46 (by assumption) he54)).trans (cov_b hk)), rfl⟩ | exact ⟨congrArg flt ((turn_T (by assumption) hr93 (box_2 hr41 hr46 (by assumption) he54)).trans (cov_b hk)), rfl⟩ | exact ⟨congrArg flt ((turn_F (by assumption) (box_2 hr41 hr46 (by assumption) he54)).trans (cov_b hk)), rfl⟩

set_option maxHeartbeats 4000000 in
set_option maxRecDepth 100000 in
theorem covEll (u : Win) (A : Option Addr) (c : Nat) (x y p q : Int) (W : World) (hA : PS W A u.pts) (he : winE u = 0) (hp : fop .sub (cvF x) u.x = some (cvF p)) (hq : fop .sub (cvF y) u.y = some (cvF q)) (hp24 : p.natAbs ≤ 16777215) (hq24 : q.natAbs ≤ 16777215) (hx : x.natAbs ≤ 4194304) (hy : y.natAbs ≤ 4194304) (hk : u.kind = 2) : Fn_ Try.prog 90 #[.agg #[iv u.kind, flt u.x, flt u.y, flt u.w, flt u.h, flt u.soft, .slice A u.pts.length c, .bool u.out], iv x, iv y] W (fun v H => v = flt (covV u p q x y) ∧ H = []) := by
  have hnu := winE_num he
  have hel := winE_ell he hk
  have hsq := sqV_nn hp24 hq24 hnu.1 hnu.2.1 hel.1 hel.2
  refine Fn_.intro Try.func90 rfl rfl (by rfl) ?_
  refine CS.seq ?_
  refine CS.region ?_
  refine RS.box rfl (by rfl) (by rfl) ?_
  intro g3
  refine RS.q rfl (QO.assign) ?_
  refine RS.nil ?_
  refine thenC_n ?_
  refine CS.seq ?_
  refine CS.region ?_
  refine RS.q rfl (QO.assign) ?_
  refine RS.nil ?_
  refine thenC_n ?_
  refine CS.seq ?_
  refine CS.seq ?_
  refine CS.draw 12 rfl (by kernel_rfl) (by kernel_rfl) ?_
  refine RT.take (i := 0) rfl (by kernel_rfl) rfl (QO.move) ?_
  refine RT.take (i := 1) rfl (by kernel_rfl) rfl (QO.conv_i64_f32 Try.underlying3 Try.underlying29 (by rfl)) ?_
  refine RT.take (i := 2) rfl (by kernel_rfl) rfl (QO.fieldAddr fo61_1 (by rfl)) ?_
  first | (refine RT.take (i := 3) rfl (by kernel_rfl) rfl (QO.load ty29 (by rfl) (by repeat (first | exact List.Mem.head _ | refine List.Mem.tail _ ?_)) (by rfl)) ?_) | (refine RT.take (i := 3) rfl (by kernel_rfl) rfl (QO.loadO ty29 (by rfl) (by assumption)) ?_) | (refine RT.take (i := 3) rfl (by kernel_rfl) rfl (QO.load ty29 (by rfl) (by repeat (first | exact List.Mem.head _ | refine List.Mem.tail _ ?_)) (by assumption)) ?_)
  refine RT.take (i := 4) rfl (by kernel_rfl) rfl (QO.fsubS (by rfl) (by rfl) hp) ?_
  refine RT.take (i := 5) rfl (by kernel_rfl) rfl (QO.move) ?_
  refine RT.take (i := 6) rfl (by kernel_rfl) rfl (QO.conv_i64_f32 Try.underlying3 Try.underlying29 (by rfl)) ?_
  refine RT.take (i := 7) rfl (by kernel_rfl) rfl (QO.fieldAddr fo61_2 (by rfl)) ?_
  first | (refine RT.take (i := 8) rfl (by kernel_rfl) rfl (QO.load ty29 (by rfl) (by repeat (first | exact List.Mem.head _ | refine List.Mem.tail _ ?_)) (by rfl)) ?_) | (refine RT.take (i := 8) rfl (by kernel_rfl) rfl (QO.loadO ty29 (by rfl) (by assumption)) ?_) | (refine RT.take (i := 8) rfl (by kernel_rfl) rfl (QO.load ty29 (by rfl) (by repeat (first | exact List.Mem.head _ | refine List.Mem.tail _ ?_)) (by assumption)) ?_)
  refine RT.take (i := 9) rfl (by kernel_rfl) rfl (QO.fsubS (by rfl) (by rfl) hq) ?_
  refine RT.take (i := 10) rfl (by kernel_rfl) rfl (QO.assign) ?_
  refine RT.take (i := 11) rfl (by kernel_rfl) rfl (QO.assign) ?_
  refine RT.done (by kernel_rfl) ?_
  refine thenC_n ?_
  refine CS.seq ?_
  refine CS.region ?_
  refine RS.q rfl (QO.fieldAddr fo61_0 (by rfl)) ?_
  first | (refine RS.q rfl (QO.load ty3 (by rfl) (by repeat (first | exact List.Mem.head _ | refine List.Mem.tail _ ?_)) (by rfl)) ?_) | (refine RS.q rfl (QO.loadO ty3 (by rfl) (by assumption)) ?_) | (refine RS.q rfl (QO.load ty3 (by rfl) (by repeat (first | exact List.Mem.head _ | refine List.Mem.tail _ ?_)) (by assumption)) ?_)
  refine RS.nil ?_
  refine thenC_n ?_
  refine CS.block ?_
  refine CS.seq ?_
  refine CS.region ?_
  refine RS.qv rfl (QO.eql (by rfl) (by rfl)) (congrArg Value.bool (show (u.kind == 1) = false from beq_eq_false_iff_ne.2 (by omega))) ?_
  refine RS.q rfl (QO.assign) ?_
  refine RS.nil ?_
  refine thenC_n ?_
  refine CS.condF (by rfl) rfl ?_
  refine CS.seq ?_
  refine CS.region ?_
  refine RS.qv rfl (QO.eql (by rfl) (by rfl)) (congrArg Value.bool (show (u.kind == 2) = true from beq_iff_eq.2 hk)) ?_
  refine RS.q rfl (QO.assign) ?_
  refine RS.nil ?_
  refine thenC_n ?_
  refine CS.condT (by rfl) rfl ?_
  refine CS.seq ?_
  refine CS.draw 10 rfl (by kernel_rfl) (by kernel_rfl) ?_
  refine RT.take (i := 0) rfl (by kernel_rfl) rfl (QO.move) ?_
  refine RT.take (i := 1) rfl (by kernel_rfl) rfl (QO.fieldAddr fo61_3 (by rfl)) ?_
  first | (refine RT.take (i := 2) rfl (by kernel_rfl) rfl (QO.load ty29 (by rfl) (by repeat (first | exact List.Mem.head _ | refine List.Mem.tail _ ?_)) (by rfl)) ?_) | (refine RT.take (i := 2) rfl (by kernel_rfl) rfl (QO.loadO ty29 (by rfl) (by assumption)) ?_) | (refine RT.take (i := 2) rfl (by kernel_rfl) rfl (QO.load ty29 (by rfl) (by repeat (first | exact List.Mem.head _ | refine List.Mem.tail _ ?_)) (by assumption)) ?_)
  refine RT.take (i := 4) rfl (by kernel_rfl) rfl (QO.move) ?_
  refine RT.take (i := 5) rfl (by kernel_rfl) rfl (QO.fieldAddr fo61_4 (by rfl)) ?_
  first | (refine RT.take (i := 6) rfl (by kernel_rfl) rfl (QO.load ty29 (by rfl) (by repeat (first | exact List.Mem.head _ | refine List.Mem.tail _ ?_)) (by rfl)) ?_) | (refine RT.take (i := 6) rfl (by kernel_rfl) rfl (QO.loadO ty29 (by rfl) (by assumption)) ?_) | (refine RT.take (i := 6) rfl (by kernel_rfl) rfl (QO.load ty29 (by rfl) (by repeat (first | exact List.Mem.head _ | refine List.Mem.tail _ ?_)) (by assumption)) ?_)
  refine RT.two (i := 3) (j := 7) (by kernel_rfl) rfl rfl ?_ ?_
  · refine RS.farith rfl (by rfl) (by rfl) (by simp) ?_
    intro r60 hr60
    refine RS.nil ⟨(by repeat (first | exact List.Sublist.refl _ | exact List.nil_sublist _ | refine List.Sublist.cons_cons _ ?_ | refine List.Sublist.cons _ ?_ | exact Sbp.refl | exact Sbp.nil | refine Sbp.cons (by repeat (first | exact Rem.head | apply Rem.tail)) ?_ | exact Sbp.app | refine Sbp.skip ?_ | exact List.sublist_append_left _ _ | exact List.sublist_append_right _ _)), ?_⟩
    refine RT.take (i := 8) rfl (by kernel_rfl) rfl (QO.assign) ?_
    refine RT.one (i := 7) (by kernel_rfl) rfl rfl ?_
    refine RS.farith rfl (by rfl) (by rfl) (by simp) ?_
    intro r64 hr64
    refine RS.nil ⟨(by repeat (first | exact List.Sublist.refl _ | exact List.nil_sublist _ | refine List.Sublist.cons_cons _ ?_ | refine List.Sublist.cons _ ?_ | exact Sbp.refl | exact Sbp.nil | refine Sbp.cons (by repeat (first | exact Rem.head | apply Rem.tail)) ?_ | exact Sbp.app | refine Sbp.skip ?_ | exact List.sublist_append_left _ _ | exact List.sublist_append_right _ _)), ?_⟩
    refine RT.take (i := 9) rfl (by kernel_rfl) rfl (QO.assign) ?_
    refine RT.done (by kernel_rfl) ?_
    refine thenC_n ?_
    refine CS.seq ?_
    refine CS.region ?_
    refine RS.q rfl (QO.move) ?_
    refine RS.q rfl (QO.move) ?_
    refine RS.farith rfl (by rfl) (by rfl) (by simp) ?_
    intro r67 hr67
    refine RS.q rfl (QO.move) ?_
    refine RS.q rfl (QO.move) ?_
    refine RS.farith rfl (by rfl) (by rfl) (by simp) ?_
    intro r70 hr70
    refine RS.farith rfl (by rfl) (by rfl) (by simp) ?_
    intro r71 hr71
    refine RS.call rfl (by rfl) ok135 (by rfl) (fun w ho => root_ r71 (sqV u p q) _ (ell_s hr60 hr64 hr67 hr70 hr71) hsq) ?_
    rintro _ _ ⟨rfl, rfl⟩
    refine RS.q rfl (QO.assign) ?_
    refine RS.nil ?_
    refine thenC_n ?_
    refine CS.seq ?_
    refine CS.region ?_
    refine RS.q rfl (QO.fieldAddr fo61_3 (by rfl)) ?_
    first | (refine RS.q rfl (QO.load ty29 (by rfl) (by repeat (first | exact List.Mem.head _ | refine List.Mem.tail _ ?_)) (by rfl)) ?_) | (refine RS.q rfl (QO.loadO ty29 (by rfl) (by assumption)) ?_) | (refine RS.q rfl (QO.load ty29 (by rfl) (by repeat (first | exact List.Mem.head _ | refine List.Mem.tail _ ?_)) (by assumption)) ?_)
    refine RS.q rfl (QO.assign) ?_
    refine RS.nil ?_
    refine thenC_n ?_
    refine CS.seq ?_
    refine CS.seq ?_
    refine CS.region ?_
    refine RS.q rfl (QO.fieldAddr fo61_4 (by rfl)) ?_
    first | (refine RS.q rfl (QO.load ty29 (by rfl) (by repeat (first | exact List.Mem.head _ | refine List.Mem.tail _ ?_)) (by rfl)) ?_) | (refine RS.q rfl (QO.loadO ty29 (by rfl) (by assumption)) ?_) | (refine RS.q rfl (QO.load ty29 (by rfl) (by repeat (first | exact List.Mem.head _ | refine List.Mem.tail _ ?_)) (by assumption)) ?_)
    refine RS.q rfl (QO.move) ?_
    refine RS.q rfl (QO.fcmp32 (by rfl) (by rfl) (by simp)) ?_
    refine RS.nil ?_
    refine thenC_n ?_
    refine CS.cond (by rfl) (fun hb0 => ?_) (fun hb0 => ?_)
    · refine CS.region ?_
      refine RS.q rfl (QO.fieldAddr fo61_4 (by rfl)) ?_
      first | (refine RS.q rfl (QO.load ty29 (by rfl) (by repeat (first | exact List.Mem.head _ | refine List.Mem.tail _ ?_)) (by rfl)) ?_) | (refine RS.q rfl (QO.loadO ty29 (by rfl) (by assumption)) ?_) | (refine RS.q rfl (QO.load ty29 (by rfl) (by repeat (first | exact List.Mem.head _ | refine List.Mem.tail _ ?_)) (by assumption)) ?_)
      refine RS.q rfl (QO.assign) ?_
      refine RS.nil ?_
      refine thenC_n ?_
      refine CS.seq ?_
      refine CS.region ?_
      refine RS.q rfl (QO.assign) ?_
      refine RS.nil ?_
      refine thenC_n ?_
      refine CS.seq ?_
      refine CS.region ?_
      refine RS.q rfl (QO.move) ?_
      refine RS.q rfl (QO.fcmp32 (by rfl) (by rfl) (by simp)) ?_
      refine RS.nil ?_
      refine thenC_n ?_
      refine CS.cond (by rfl) (fun hb1 => ?_) (fun hb1 => ?_)
      · refine CS.region ?_
        refine RS.q rfl (QO.move) ?_
        refine RS.farith rfl (by rfl) (by rfl) (by simp) ?_
        intro r84 hr84
        refine RS.q rfl (QO.move) ?_
        refine RS.farith rfl (by rfl) (by rfl) (by simp) ?_
        intro r86 hr86
        refine RS.q rfl (QO.fieldAddr fo61_5 (by rfl)) ?_
        first | (refine RS.q rfl (QO.load ty29 (by rfl) (by repeat (first | exact List.Mem.head _ | refine List.Mem.tail _ ?_)) (by rfl)) ?_) | (refine RS.q rfl (QO.loadO ty29 (by rfl) (by assumption)) ?_) | (refine RS.q rfl (QO.load ty29 (by rfl) (by repeat (first | exact List.Mem.head _ | refine List.Mem.tail _ ?_)) (by assumption)) ?_)
        refine RS.call rfl (by rfl) ok134 (by rfl) (fun w ho => edge_ _ _ _) ?_
        rintro _ _ ⟨e89, rfl, he89, rfl⟩
        refine RS.q rfl (QO.assign) ?_
        refine RS.nil ?_
        refine blockC_n ?_
        refine thenC_n ?_
        refine CS.seq ?_
        refine CS.seq ?_
        refine CS.region ?_
        refine RS.q rfl (QO.fieldAddr fo61_7 (by rfl)) ?_
        first | (refine RS.q rfl (QO.load ty4 (by rfl) (by repeat (first | exact List.Mem.head _ | refine List.Mem.tail _ ?_)) (by rfl)) ?_) | (refine RS.q rfl (QO.loadO ty4 (by rfl) (by assumption)) ?_) | (refine RS.q rfl (QO.load ty4 (by rfl) (by repeat (first | exact List.Mem.head _ | refine List.Mem.tail _ ?_)) (by assumption)) ?_)
        refine RS.nil ?_
        refine thenC_n ?_
        refine CS.cond (by rfl) (fun hb2 => ?_) (fun hb2 => ?_)
        · refine CS.region ?_
          refine RS.q rfl (QO.move) ?_
          refine RS.farith rfl (by rfl) (by rfl) (by simp) ?_
          intro r93 hr93
          refine RS.q rfl (QO.assign) ?_
          refine RS.nil ?_
          refine thenC_n ?_
          refine CS.seq ?_
          refine CS.region ?_
          refine RS.q rfl (QO.move) ?_
          refine RS.call rfl (by rfl) ok57 (by rfl) (fun w ho => clean _ _) ?_
          rintro _ _ ⟨rfl, rfl⟩
          refine RS.q rfl (QO.assign) ?_
          refine RS.nil ?_
          refine thenC_n ?_
          refine CS.ret ?_
          refine retQ.mk (H' := []) (.inr rfl) (RVs.tmp (by rfl) RVs.nil) (List.nil_sublist _) ?_
          first | exact ⟨congrArg flt ((turn_T (by assumption) hr93 (ell_1 (least_1 (by assumption)) (by assumption) hr84 hr86 he89)).trans (cov_e hk)), rfl⟩ | exact ⟨congrArg flt ((turn_F (by assumption) (ell_1 (least_1 (by assumption)) (by assumption) hr84 hr86 he89)).trans (cov_e hk)), rfl⟩ | exact ⟨congrArg flt ((turn_T (by assumption) hr93 (ell_1 (least_2 (by assumption)) (by assumption) hr84 hr86 he89)).trans (cov_e hk)), rfl⟩ | exact ⟨congrArg flt ((turn_F (by assumption) (ell_1 (least_2 (by assumption)) (by assumption) hr84 hr86 he89)).trans (cov_e hk)), rfl⟩ | exact ⟨congrArg flt ((turn_T (by assumption) hr93 (ell_2 (by assumption))).trans (cov_e hk)), rfl⟩ | exact ⟨congrArg flt ((turn_F (by assumption) (ell_2 (by assumption))).trans (cov_e hk)), rfl⟩
        · refine CS.skip ?_
          refine thenC_n ?_
          refine CS.seq ?_
          refine CS.region ?_
          refine RS.q rfl (QO.move) ?_
          refine RS.call rfl (by rfl) ok57 (by rfl) (fun w ho => clean _ _) ?_
          rintro _ _ ⟨rfl, rfl⟩
          refine RS.q rfl (QO.assign) ?_
          refine RS.nil ?_
          refine thenC_n ?_
          refine CS.ret ?_
          refine retQ.mk (H' := []) (.inr rfl) (RVs.tmp (by rfl) RVs.nil) (List.nil_sublist _) ?_
          first | exact ⟨congrArg flt ((turn_T (by assumption) hr93 (ell_1 (least_1 (by assumption)) (by assumption) hr84 hr86 he89)).trans (cov_e hk)), rfl⟩ | exact ⟨congrArg flt ((turn_F (by assumption) (ell_1 (least_1 (by assumption)) (by assumption) hr84 hr86 he89)).trans (cov_e hk)), rfl⟩ | exact ⟨congrArg flt ((turn_T (by assumption) hr93 (ell_1 (least_2 (by assumption)) (by assumption) hr84 hr86 he89)).trans (cov_e hk)), rfl⟩ | exact ⟨congrArg flt ((turn_F (by assumption) (ell_1 (least_2 (by assumption)) (by assumption) hr84 hr86 he89)).trans (cov_e hk)), rfl⟩ | exact ⟨congrArg flt ((turn_T (by assumption) hr93 (ell_2 (by assumption))).trans (cov_e hk)), rfl⟩ | exact ⟨congrArg flt ((turn_F (by assumption) (ell_2 (by assumption))).trans (cov_e hk)), rfl⟩
      · refine CS.skip ?_
        refine blockC_n ?_
        refine thenC_n ?_
        refine CS.seq ?_
        refine CS.seq ?_
        refine CS.region ?_
        refine RS.q rfl (QO.fieldAddr fo61_7 (by rfl)) ?_
        first | (refine RS.q rfl (QO.load ty4 (by rfl) (by repeat (first | exact List.Mem.head _ | refine List.Mem.tail _ ?_)) (by rfl)) ?_) | (refine RS.q rfl (QO.loadO ty4 (by rfl) (by assumption)) ?_) | (refine RS.q rfl (QO.load ty4 (by rfl) (by repeat (first | exact List.Mem.head _ | refine List.Mem.tail _ ?_)) (by assumption)) ?_)
        refine RS.nil ?_
        refine thenC_n ?_
        refine CS.cond (by rfl) (fun hb3 => ?_) (fun hb3 => ?_)
        · refine CS.region ?_
          refine RS.q rfl (QO.move) ?_
          refine RS.farith rfl (by rfl) (by rfl) (by simp) ?_
          intro r93 hr93
          refine RS.q rfl (QO.assign) ?_
          refine RS.nil ?_
          refine thenC_n ?_
          refine CS.seq ?_
          refine CS.region ?_
          refine RS.q rfl (QO.move) ?_
          refine RS.call rfl (by rfl) ok57 (by rfl) (fun w ho => clean _ _) ?_
          rintro _ _ ⟨rfl, rfl⟩
          refine RS.q rfl (QO.assign) ?_
          refine RS.nil ?_
          refine thenC_n ?_
          refine CS.ret ?_
          refine retQ.mk (H' := []) (.inr rfl) (RVs.tmp (by rfl) RVs.nil) (List.nil_sublist _) ?_
          first | exact ⟨congrArg flt ((turn_T (by assumption) hr93 (ell_1 (least_1 (by assumption)) (by assumption) hr84 hr86 he89)).trans (cov_e hk)), rfl⟩ | exact ⟨congrArg flt ((turn_F (by assumption) (ell_1 (least_1 (by assumption)) (by assumption) hr84 hr86 he89)).trans (cov_e hk)), rfl⟩ | exact ⟨congrArg flt ((turn_T (by assumption) hr93 (ell_1 (least_2 (by assumption)) (by assumption) hr84 hr86 he89)).trans (cov_e hk)), rfl⟩ | exact ⟨congrArg flt ((turn_F (by assumption) (ell_1 (least_2 (by assumption)) (by assumption) hr84 hr86 he89)).trans (cov_e hk)), rfl⟩ | exact ⟨congrArg flt ((turn_T (by assumption) hr93 (ell_2 (by assumption))).trans (cov_e hk)), rfl⟩ | exact ⟨congrArg flt ((turn_F (by assumption) (ell_2 (by assumption))).trans (cov_e hk)), rfl⟩
        · refine CS.skip ?_
          refine thenC_n ?_
          refine CS.seq ?_
          refine CS.region ?_
          refine RS.q rfl (QO.move) ?_
          refine RS.call rfl (by rfl) ok57 (by rfl) (fun w ho => clean _ _) ?_
          rintro _ _ ⟨rfl, rfl⟩
          refine RS.q rfl (QO.assign) ?_
          refine RS.nil ?_
          refine thenC_n ?_
          refine CS.ret ?_
          refine retQ.mk (H' := []) (.inr rfl) (RVs.tmp (by rfl) RVs.nil) (List.nil_sublist _) ?_
          first | exact ⟨congrArg flt ((turn_T (by assumption) hr93 (ell_1 (least_1 (by assumption)) (by assumption) hr84 hr86 he89)).trans (cov_e hk)), rfl⟩ | exact ⟨congrArg flt ((turn_F (by assumption) (ell_1 (least_1 (by assumption)) (by assumption) hr84 hr86 he89)).trans (cov_e hk)), rfl⟩ | exact ⟨congrArg flt ((turn_T (by assumption) hr93 (ell_1 (least_2 (by assumption)) (by assumption) hr84 hr86 he89)).trans (cov_e hk)), rfl⟩ | exact ⟨congrArg flt ((turn_F (by assumption) (ell_1 (least_2 (by assumption)) (by assumption) hr84 hr86 he89)).trans (cov_e hk)), rfl⟩ | exact ⟨congrArg flt ((turn_T (by assumption) hr93 (ell_2 (by assumption))).trans (cov_e hk)), rfl⟩ | exact ⟨congrArg flt ((turn_F (by assumption) (ell_2 (by assumption))).trans (cov_e hk)), rfl⟩
    · refine CS.skip ?_
      refine thenC_n ?_
      refine CS.seq ?_
      refine CS.region ?_
      refine RS.q rfl (QO.assign) ?_
      refine RS.nil ?_
      refine thenC_n ?_
      refine CS.seq ?_
      refine CS.region ?_
      refine RS.q rfl (QO.move) ?_
      refine RS.q rfl (QO.fcmp32 (by rfl) (by rfl) (by simp)) ?_
      refine RS.nil ?_
      refine thenC_n ?_
      refine CS.cond (by rfl) (fun hb4 => ?_) (fun hb4 => ?_)
      · refine CS.region ?_
        refine RS.q rfl (QO.move) ?_
        refine RS.farith rfl (by rfl) (by rfl) (by simp) ?_
        intro r84 hr84
        refine RS.q rfl (QO.move) ?_
        refine RS.farith rfl (by rfl) (by rfl) (by simp) ?_
        intro r86 hr86
        refine RS.q rfl (QO.fieldAddr fo61_5 (by rfl)) ?_
        first | (refine RS.q rfl (QO.load ty29 (by rfl) (by repeat (first | exact List.Mem.head _ | refine List.Mem.tail _ ?_)) (by rfl)) ?_) | (refine RS.q rfl (QO.loadO ty29 (by rfl) (by assumption)) ?_) | (refine RS.q rfl (QO.load ty29 (by rfl) (by repeat (first | exact List.Mem.head _ | refine List.Mem.tail _ ?_)) (by assumption)) ?_)
        refine RS.call rfl (by rfl) ok134 (by rfl) (fun w ho => edge_ _ _ _) ?_
        rintro _ _ ⟨e89, rfl, he89, rfl⟩
        refine RS.q rfl (QO.assign) ?_
        refine RS.nil ?_
        refine blockC_n ?_
        refine thenC_n ?_
        refine CS.seq ?_
        refine CS.seq ?_
        refine CS.region ?_
        refine RS.q rfl (QO.fieldAddr fo61_7 (by rfl)) ?_
        first | (refine RS.q rfl (QO.load ty4 (by rfl) (by repeat (first | exact List.Mem.head _ | refine List.Mem.tail _ ?_)) (by rfl)) ?_) | (refine RS.q rfl (QO.loadO ty4 (by rfl) (by assumption)) ?_) | (refine RS.q rfl (QO.load ty4 (by rfl) (by repeat (first | exact List.Mem.head _ | refine List.Mem.tail _ ?_)) (by assumption)) ?_)
        refine RS.nil ?_
        refine thenC_n ?_
        refine CS.cond (by rfl) (fun hb5 => ?_) (fun hb5 => ?_)
        · refine CS.region ?_
          refine RS.q rfl (QO.move) ?_
          refine RS.farith rfl (by rfl) (by rfl) (by simp) ?_
          intro r93 hr93
          refine RS.q rfl (QO.assign) ?_
          refine RS.nil ?_
          refine thenC_n ?_
          refine CS.seq ?_
          refine CS.region ?_
          refine RS.q rfl (QO.move) ?_
          refine RS.call rfl (by rfl) ok57 (by rfl) (fun w ho => clean _ _) ?_
          rintro _ _ ⟨rfl, rfl⟩
          refine RS.q rfl (QO.assign) ?_
          refine RS.nil ?_
          refine thenC_n ?_
          refine CS.ret ?_
          refine retQ.mk (H' := []) (.inr rfl) (RVs.tmp (by rfl) RVs.nil) (List.nil_sublist _) ?_
          first | exact ⟨congrArg flt ((turn_T (by assumption) hr93 (ell_1 (least_1 (by assumption)) (by assumption) hr84 hr86 he89)).trans (cov_e hk)), rfl⟩ | exact ⟨congrArg flt ((turn_F (by assumption) (ell_1 (least_1 (by assumption)) (by assumption) hr84 hr86 he89)).trans (cov_e hk)), rfl⟩ | exact ⟨congrArg flt ((turn_T (by assumption) hr93 (ell_1 (least_2 (by assumption)) (by assumption) hr84 hr86 he89)).trans (cov_e hk)), rfl⟩ | exact ⟨congrArg flt ((turn_F (by assumption) (ell_1 (least_2 (by assumption)) (by assumption) hr84 hr86 he89)).trans (cov_e hk)), rfl⟩ | exact ⟨congrArg flt ((turn_T (by assumption) hr93 (ell_2 (by assumption))).trans (cov_e hk)), rfl⟩ | exact ⟨congrArg flt ((turn_F (by assumption) (ell_2 (by assumption))).trans (cov_e hk)), rfl⟩
        · refine CS.skip ?_
          refine thenC_n ?_
          refine CS.seq ?_
          refine CS.region ?_
          refine RS.q rfl (QO.move) ?_
          refine RS.call rfl (by rfl) ok57 (by rfl) (fun w ho => clean _ _) ?_
          rintro _ _ ⟨rfl, rfl⟩
          refine RS.q rfl (QO.assign) ?_
          refine RS.nil ?_
          refine thenC_n ?_
          refine CS.ret ?_
          refine retQ.mk (H' := []) (.inr rfl) (RVs.tmp (by rfl) RVs.nil) (List.nil_sublist _) ?_
          first | exact ⟨congrArg flt ((turn_T (by assumption) hr93 (ell_1 (least_1 (by assumption)) (by assumption) hr84 hr86 he89)).trans (cov_e hk)), rfl⟩ | exact ⟨congrArg flt ((turn_F (by assumption) (ell_1 (least_1 (by assumption)) (by assumption) hr84 hr86 he89)).trans (cov_e hk)), rfl⟩ | exact ⟨congrArg flt ((turn_T (by assumption) hr93 (ell_1 (least_2 (by assumption)) (by assumption) hr84 hr86 he89)).trans (cov_e hk)), rfl⟩ | exact ⟨congrArg flt ((turn_F (by assumption) (ell_1 (least_2 (by assumption)) (by assumption) hr84 hr86 he89)).trans (cov_e hk)), rfl⟩ | exact ⟨congrArg flt ((turn_T (by assumption) hr93 (ell_2 (by assumption))).trans (cov_e hk)), rfl⟩ | exact ⟨congrArg flt ((turn_F (by assumption) (ell_2 (by assumption))).trans (cov_e hk)), rfl⟩
      · refine CS.skip ?_
        refine blockC_n ?_
        refine thenC_n ?_
        refine CS.seq ?_
        refine CS.seq ?_
        refine CS.region ?_
        refine RS.q rfl (QO.fieldAddr fo61_7 (by rfl)) ?_
        first | (refine RS.q rfl (QO.load ty4 (by rfl) (by repeat (first | exact List.Mem.head _ | refine List.Mem.tail _ ?_)) (by rfl)) ?_) | (refine RS.q rfl (QO.loadO ty4 (by rfl) (by assumption)) ?_) | (refine RS.q rfl (QO.load ty4 (by rfl) (by repeat (first | exact List.Mem.head _ | refine List.Mem.tail _ ?_)) (by assumption)) ?_)
        refine RS.nil ?_
        refine thenC_n ?_
        refine CS.cond (by rfl) (fun hb6 => ?_) (fun hb6 => ?_)
        · refine CS.region ?_
          refine RS.q rfl (QO.move) ?_
          refine RS.farith rfl (by rfl) (by rfl) (by simp) ?_
          intro r93 hr93
          refine RS.q rfl (QO.assign) ?_
          refine RS.nil ?_
          refine thenC_n ?_
          refine CS.seq ?_
          refine CS.region ?_
          refine RS.q rfl (QO.move) ?_
          refine RS.call rfl (by rfl) ok57 (by rfl) (fun w ho => clean _ _) ?_
          rintro _ _ ⟨rfl, rfl⟩
          refine RS.q rfl (QO.assign) ?_
          refine RS.nil ?_
          refine thenC_n ?_
          refine CS.ret ?_
          refine retQ.mk (H' := []) (.inr rfl) (RVs.tmp (by rfl) RVs.nil) (List.nil_sublist _) ?_
          first | exact ⟨congrArg flt ((turn_T (by assumption) hr93 (ell_1 (least_1 (by assumption)) (by assumption) hr84 hr86 he89)).trans (cov_e hk)), rfl⟩ | exact ⟨congrArg flt ((turn_F (by assumption) (ell_1 (least_1 (by assumption)) (by assumption) hr84 hr86 he89)).trans (cov_e hk)), rfl⟩ | exact ⟨congrArg flt ((turn_T (by assumption) hr93 (ell_1 (least_2 (by assumption)) (by assumption) hr84 hr86 he89)).trans (cov_e hk)), rfl⟩ | exact ⟨congrArg flt ((turn_F (by assumption) (ell_1 (least_2 (by assumption)) (by assumption) hr84 hr86 he89)).trans (cov_e hk)), rfl⟩ | exact ⟨congrArg flt ((turn_T (by assumption) hr93 (ell_2 (by assumption))).trans (cov_e hk)), rfl⟩ | exact ⟨congrArg flt ((turn_F (by assumption) (ell_2 (by assumption))).trans (cov_e hk)), rfl⟩
        · refine CS.skip ?_
          refine thenC_n ?_
          refine CS.seq ?_
          refine CS.region ?_
          refine RS.q rfl (QO.move) ?_
          refine RS.call rfl (by rfl) ok57 (by rfl) (fun w ho => clean _ _) ?_
          rintro _ _ ⟨rfl, rfl⟩
          refine RS.q rfl (QO.assign) ?_
          refine RS.nil ?_
          refine thenC_n ?_
          refine CS.ret ?_
          refine retQ.mk (H' := []) (.inr rfl) (RVs.tmp (by rfl) RVs.nil) (List.nil_sublist _) ?_
          first | exact ⟨congrArg flt ((turn_T (by assumption) hr93 (ell_1 (least_1 (by assumption)) (by assumption) hr84 hr86 he89)).trans (cov_e hk)), rfl⟩ | exact ⟨congrArg flt ((turn_F (by assumption) (ell_1 (least_1 (by assumption)) (by assumption) hr84 hr86 he89)).trans (cov_e hk)), rfl⟩ | exact ⟨congrArg flt ((turn_T (by assumption) hr93 (ell_1 (least_2 (by assumption)) (by assumption) hr84 hr86 he89)).trans (cov_e hk)), rfl⟩ | exact ⟨congrArg flt ((turn_F (by assumption) (ell_1 (least_2 (by assumption)) (by assumption) hr84 hr86 he89)).trans (cov_e hk)), rfl⟩ | exact ⟨congrArg flt ((turn_T (by assumption) hr93 (ell_2 (by assumption))).trans (cov_e hk)), rfl⟩ | exact ⟨congrArg flt ((turn_F (by assumption) (ell_2 (by assumption))).trans (cov_e hk)), rfl⟩
  · refine RS.farith rfl (by rfl) (by rfl) (by simp) ?_
    intro r64 hr64
    refine RS.nil ⟨(by repeat (first | exact List.Sublist.refl _ | exact List.nil_sublist _ | refine List.Sublist.cons_cons _ ?_ | refine List.Sublist.cons _ ?_ | exact Sbp.refl | exact Sbp.nil | refine Sbp.cons (by repeat (first | exact Rem.head | apply Rem.tail)) ?_ | exact Sbp.app | refine Sbp.skip ?_ | exact List.sublist_append_left _ _ | exact List.sublist_append_right _ _)), ?_⟩
    refine RT.one (i := 3) (by kernel_rfl) rfl rfl ?_
    refine RS.farith rfl (by rfl) (by rfl) (by simp) ?_
    intro r60 hr60
    refine RS.nil ⟨(by repeat (first | exact List.Sublist.refl _ | exact List.nil_sublist _ | refine List.Sublist.cons_cons _ ?_ | refine List.Sublist.cons _ ?_ | exact Sbp.refl | exact Sbp.nil | refine Sbp.cons (by repeat (first | exact Rem.head | apply Rem.tail)) ?_ | exact Sbp.app | refine Sbp.skip ?_ | exact List.sublist_append_left _ _ | exact List.sublist_append_right _ _)), ?_⟩
    refine RT.take (i := 8) rfl (by kernel_rfl) rfl (QO.assign) ?_
    refine RT.take (i := 9) rfl (by kernel_rfl) rfl (QO.assign) ?_
    refine RT.done (by kernel_rfl) ?_
    refine thenC_n ?_
    refine CS.seq ?_
    refine CS.region ?_
    refine RS.q rfl (QO.move) ?_
    refine RS.q rfl (QO.move) ?_
    refine RS.farith rfl (by rfl) (by rfl) (by simp) ?_
    intro r67 hr67
    refine RS.q rfl (QO.move) ?_
    refine RS.q rfl (QO.move) ?_
    refine RS.farith rfl (by rfl) (by rfl) (by simp) ?_
    intro r70 hr70
    refine RS.farith rfl (by rfl) (by rfl) (by simp) ?_
    intro r71 hr71
    refine RS.call rfl (by rfl) ok135 (by rfl) (fun w ho => root_ r71 (sqV u p q) _ (ell_s hr60 hr64 hr67 hr70 hr71) hsq) ?_
    rintro _ _ ⟨rfl, rfl⟩
    refine RS.q rfl (QO.assign) ?_
    refine RS.nil ?_
    refine thenC_n ?_
    refine CS.seq ?_
    refine CS.region ?_
    refine RS.q rfl (QO.fieldAddr fo61_3 (by rfl)) ?_
    first | (refine RS.q rfl (QO.load ty29 (by rfl) (by repeat (first | exact List.Mem.head _ | refine List.Mem.tail _ ?_)) (by rfl)) ?_) | (refine RS.q rfl (QO.loadO ty29 (by rfl) (by assumption)) ?_) | (refine RS.q rfl (QO.load ty29 (by rfl) (by repeat (first | exact List.Mem.head _ | refine List.Mem.tail _ ?_)) (by assumption)) ?_)
    refine RS.q rfl (QO.assign) ?_
    refine RS.nil ?_
    refine thenC_n ?_
    refine CS.seq ?_
    refine CS.seq ?_
    refine CS.region ?_
    refine RS.q rfl (QO.fieldAddr fo61_4 (by rfl)) ?_
    first | (refine RS.q rfl (QO.load ty29 (by rfl) (by repeat (first | exact List.Mem.head _ | refine List.Mem.tail _ ?_)) (by rfl)) ?_) | (refine RS.q rfl (QO.loadO ty29 (by rfl) (by assumption)) ?_) | (refine RS.q rfl (QO.load ty29 (by rfl) (by repeat (first | exact List.Mem.head _ | refine List.Mem.tail _ ?_)) (by assumption)) ?_)
    refine RS.q rfl (QO.move) ?_
    refine RS.q rfl (QO.fcmp32 (by rfl) (by rfl) (by simp)) ?_
    refine RS.nil ?_
    refine thenC_n ?_
    refine CS.cond (by rfl) (fun hb7 => ?_) (fun hb7 => ?_)
    · refine CS.region ?_
      refine RS.q rfl (QO.fieldAddr fo61_4 (by rfl)) ?_
      first | (refine RS.q rfl (QO.load ty29 (by rfl) (by repeat (first | exact List.Mem.head _ | refine List.Mem.tail _ ?_)) (by rfl)) ?_) | (refine RS.q rfl (QO.loadO ty29 (by rfl) (by assumption)) ?_) | (refine RS.q rfl (QO.load ty29 (by rfl) (by repeat (first | exact List.Mem.head _ | refine List.Mem.tail _ ?_)) (by assumption)) ?_)
      refine RS.q rfl (QO.assign) ?_
      refine RS.nil ?_
      refine thenC_n ?_
      refine CS.seq ?_
      refine CS.region ?_
      refine RS.q rfl (QO.assign) ?_
      refine RS.nil ?_
      refine thenC_n ?_
      refine CS.seq ?_
      refine CS.region ?_
      refine RS.q rfl (QO.move) ?_
      refine RS.q rfl (QO.fcmp32 (by rfl) (by rfl) (by simp)) ?_
      refine RS.nil ?_
      refine thenC_n ?_
      refine CS.cond (by rfl) (fun hb8 => ?_) (fun hb8 => ?_)
      · refine CS.region ?_
        refine RS.q rfl (QO.move) ?_
        refine RS.farith rfl (by rfl) (by rfl) (by simp) ?_
        intro r84 hr84
        refine RS.q rfl (QO.move) ?_
        refine RS.farith rfl (by rfl) (by rfl) (by simp) ?_
        intro r86 hr86
        refine RS.q rfl (QO.fieldAddr fo61_5 (by rfl)) ?_
        first | (refine RS.q rfl (QO.load ty29 (by rfl) (by repeat (first | exact List.Mem.head _ | refine List.Mem.tail _ ?_)) (by rfl)) ?_) | (refine RS.q rfl (QO.loadO ty29 (by rfl) (by assumption)) ?_) | (refine RS.q rfl (QO.load ty29 (by rfl) (by repeat (first | exact List.Mem.head _ | refine List.Mem.tail _ ?_)) (by assumption)) ?_)
        refine RS.call rfl (by rfl) ok134 (by rfl) (fun w ho => edge_ _ _ _) ?_
        rintro _ _ ⟨e89, rfl, he89, rfl⟩
        refine RS.q rfl (QO.assign) ?_
        refine RS.nil ?_
        refine blockC_n ?_
        refine thenC_n ?_
        refine CS.seq ?_
        refine CS.seq ?_
        refine CS.region ?_
        refine RS.q rfl (QO.fieldAddr fo61_7 (by rfl)) ?_
        first | (refine RS.q rfl (QO.load ty4 (by rfl) (by repeat (first | exact List.Mem.head _ | refine List.Mem.tail _ ?_)) (by rfl)) ?_) | (refine RS.q rfl (QO.loadO ty4 (by rfl) (by assumption)) ?_) | (refine RS.q rfl (QO.load ty4 (by rfl) (by repeat (first | exact List.Mem.head _ | refine List.Mem.tail _ ?_)) (by assumption)) ?_)
        refine RS.nil ?_
        refine thenC_n ?_
        refine CS.cond (by rfl) (fun hb9 => ?_) (fun hb9 => ?_)
        · refine CS.region ?_
          refine RS.q rfl (QO.move) ?_
          refine RS.farith rfl (by rfl) (by rfl) (by simp) ?_
          intro r93 hr93
          refine RS.q rfl (QO.assign) ?_
          refine RS.nil ?_
          refine thenC_n ?_
          refine CS.seq ?_
          refine CS.region ?_
          refine RS.q rfl (QO.move) ?_
          refine RS.call rfl (by rfl) ok57 (by rfl) (fun w ho => clean _ _) ?_
          rintro _ _ ⟨rfl, rfl⟩
          refine RS.q rfl (QO.assign) ?_
          refine RS.nil ?_
          refine thenC_n ?_
          refine CS.ret ?_
          refine retQ.mk (H' := []) (.inr rfl) (RVs.tmp (by rfl) RVs.nil) (List.nil_sublist _) ?_
          first | exact ⟨congrArg flt ((turn_T (by assumption) hr93 (ell_1 (least_1 (by assumption)) (by assumption) hr84 hr86 he89)).trans (cov_e hk)), rfl⟩ | exact ⟨congrArg flt ((turn_F (by assumption) (ell_1 (least_1 (by assumption)) (by assumption) hr84 hr86 he89)).trans (cov_e hk)), rfl⟩ | exact ⟨congrArg flt ((turn_T (by assumption) hr93 (ell_1 (least_2 (by assumption)) (by assumption) hr84 hr86 he89)).trans (cov_e hk)), rfl⟩ | exact ⟨congrArg flt ((turn_F (by assumption) (ell_1 (least_2 (by assumption)) (by assumption) hr84 hr86 he89)).trans (cov_e hk)), rfl⟩ | exact ⟨congrArg flt ((turn_T (by assumption) hr93 (ell_2 (by assumption))).trans (cov_e hk)), rfl⟩ | exact ⟨congrArg flt ((turn_F (by assumption) (ell_2 (by assumption))).trans (cov_e hk)), rfl⟩
        · refine CS.skip ?_
          refine thenC_n ?_
          refine CS.seq ?_
          refine CS.region ?_
          refine RS.q rfl (QO.move) ?_
          refine RS.call rfl (by rfl) ok57 (by rfl) (fun w ho => clean _ _) ?_
          rintro _ _ ⟨rfl, rfl⟩
          refine RS.q rfl (QO.assign) ?_
          refine RS.nil ?_
          refine thenC_n ?_
          refine CS.ret ?_
          refine retQ.mk (H' := []) (.inr rfl) (RVs.tmp (by rfl) RVs.nil) (List.nil_sublist _) ?_
          first | exact ⟨congrArg flt ((turn_T (by assumption) hr93 (ell_1 (least_1 (by assumption)) (by assumption) hr84 hr86 he89)).trans (cov_e hk)), rfl⟩ | exact ⟨congrArg flt ((turn_F (by assumption) (ell_1 (least_1 (by assumption)) (by assumption) hr84 hr86 he89)).trans (cov_e hk)), rfl⟩ | exact ⟨congrArg flt ((turn_T (by assumption) hr93 (ell_1 (least_2 (by assumption)) (by assumption) hr84 hr86 he89)).trans (cov_e hk)), rfl⟩ | exact ⟨congrArg flt ((turn_F (by assumption) (ell_1 (least_2 (by assumption)) (by assumption) hr84 hr86 he89)).trans (cov_e hk)), rfl⟩ | exact ⟨congrArg flt ((turn_T (by assumption) hr93 (ell_2 (by assumption))).trans (cov_e hk)), rfl⟩ | exact ⟨congrArg flt ((turn_F (by assumption) (ell_2 (by assumption))).trans (cov_e hk)), rfl⟩
      · refine CS.skip ?_
        refine blockC_n ?_
        refine thenC_n ?_
        refine CS.seq ?_
        refine CS.seq ?_
        refine CS.region ?_
        refine RS.q rfl (QO.fieldAddr fo61_7 (by rfl)) ?_
        first | (refine RS.q rfl (QO.load ty4 (by rfl) (by repeat (first | exact List.Mem.head _ | refine List.Mem.tail _ ?_)) (by rfl)) ?_) | (refine RS.q rfl (QO.loadO ty4 (by rfl) (by assumption)) ?_) | (refine RS.q rfl (QO.load ty4 (by rfl) (by repeat (first | exact List.Mem.head _ | refine List.Mem.tail _ ?_)) (by assumption)) ?_)
        refine RS.nil ?_
        refine thenC_n ?_
        refine CS.cond (by rfl) (fun hb10 => ?_) (fun hb10 => ?_)
        · refine CS.region ?_
          refine RS.q rfl (QO.move) ?_
          refine RS.farith rfl (by rfl) (by rfl) (by simp) ?_
          intro r93 hr93
          refine RS.q rfl (QO.assign) ?_
          refine RS.nil ?_
          refine thenC_n ?_
          refine CS.seq ?_
          refine CS.region ?_
          refine RS.q rfl (QO.move) ?_
          refine RS.call rfl (by rfl) ok57 (by rfl) (fun w ho => clean _ _) ?_
          rintro _ _ ⟨rfl, rfl⟩
          refine RS.q rfl (QO.assign) ?_
          refine RS.nil ?_
          refine thenC_n ?_
          refine CS.ret ?_
          refine retQ.mk (H' := []) (.inr rfl) (RVs.tmp (by rfl) RVs.nil) (List.nil_sublist _) ?_
          first | exact ⟨congrArg flt ((turn_T (by assumption) hr93 (ell_1 (least_1 (by assumption)) (by assumption) hr84 hr86 he89)).trans (cov_e hk)), rfl⟩ | exact ⟨congrArg flt ((turn_F (by assumption) (ell_1 (least_1 (by assumption)) (by assumption) hr84 hr86 he89)).trans (cov_e hk)), rfl⟩ | exact ⟨congrArg flt ((turn_T (by assumption) hr93 (ell_1 (least_2 (by assumption)) (by assumption) hr84 hr86 he89)).trans (cov_e hk)), rfl⟩ | exact ⟨congrArg flt ((turn_F (by assumption) (ell_1 (least_2 (by assumption)) (by assumption) hr84 hr86 he89)).trans (cov_e hk)), rfl⟩ | exact ⟨congrArg flt ((turn_T (by assumption) hr93 (ell_2 (by assumption))).trans (cov_e hk)), rfl⟩ | exact ⟨congrArg flt ((turn_F (by assumption) (ell_2 (by assumption))).trans (cov_e hk)), rfl⟩
        · refine CS.skip ?_
          refine thenC_n ?_
          refine CS.seq ?_
          refine CS.region ?_
          refine RS.q rfl (QO.move) ?_
          refine RS.call rfl (by rfl) ok57 (by rfl) (fun w ho => clean _ _) ?_
          rintro _ _ ⟨rfl, rfl⟩
          refine RS.q rfl (QO.assign) ?_
          refine RS.nil ?_
          refine thenC_n ?_
          refine CS.ret ?_
          refine retQ.mk (H' := []) (.inr rfl) (RVs.tmp (by rfl) RVs.nil) (List.nil_sublist _) ?_
          first | exact ⟨congrArg flt ((turn_T (by assumption) hr93 (ell_1 (least_1 (by assumption)) (by assumption) hr84 hr86 he89)).trans (cov_e hk)), rfl⟩ | exact ⟨congrArg flt ((turn_F (by assumption) (ell_1 (least_1 (by assumption)) (by assumption) hr84 hr86 he89)).trans (cov_e hk)), rfl⟩ | exact ⟨congrArg flt ((turn_T (by assumption) hr93 (ell_1 (least_2 (by assumption)) (by assumption) hr84 hr86 he89)).trans (cov_e hk)), rfl⟩ | exact ⟨congrArg flt ((turn_F (by assumption) (ell_1 (least_2 (by assumption)) (by assumption) hr84 hr86 he89)).trans (cov_e hk)), rfl⟩ | exact ⟨congrArg flt ((turn_T (by assumption) hr93 (ell_2 (by assumption))).trans (cov_e hk)), rfl⟩ | exact ⟨congrArg flt ((turn_F (by assumption) (ell_2 (by assumption))).trans (cov_e hk)), rfl⟩
    · refine CS.skip ?_
      refine thenC_n ?_
      refine CS.seq ?_
      refine CS.region ?_
      refine RS.q rfl (QO.assign) ?_
      refine RS.nil ?_
      refine thenC_n ?_
      refine CS.seq ?_
      refine CS.region ?_
      refine RS.q rfl (QO.move) ?_
      refine RS.q rfl (QO.fcmp32 (by rfl) (by rfl) (by simp)) ?_
      refine RS.nil ?_
      refine thenC_n ?_
      refine CS.cond (by rfl) (fun hb11 => ?_) (fun hb11 => ?_)
      · refine CS.region ?_
        refine RS.q rfl (QO.move) ?_
        refine RS.farith rfl (by rfl) (by rfl) (by simp) ?_
        intro r84 hr84
        refine RS.q rfl (QO.move) ?_
        refine RS.farith rfl (by rfl) (by rfl) (by simp) ?_
        intro r86 hr86
        refine RS.q rfl (QO.fieldAddr fo61_5 (by rfl)) ?_
        first | (refine RS.q rfl (QO.load ty29 (by rfl) (by repeat (first | exact List.Mem.head _ | refine List.Mem.tail _ ?_)) (by rfl)) ?_) | (refine RS.q rfl (QO.loadO ty29 (by rfl) (by assumption)) ?_) | (refine RS.q rfl (QO.load ty29 (by rfl) (by repeat (first | exact List.Mem.head _ | refine List.Mem.tail _ ?_)) (by assumption)) ?_)
        refine RS.call rfl (by rfl) ok134 (by rfl) (fun w ho => edge_ _ _ _) ?_
        rintro _ _ ⟨e89, rfl, he89, rfl⟩
        refine RS.q rfl (QO.assign) ?_
        refine RS.nil ?_
        refine blockC_n ?_
        refine thenC_n ?_
        refine CS.seq ?_
        refine CS.seq ?_
        refine CS.region ?_
        refine RS.q rfl (QO.fieldAddr fo61_7 (by rfl)) ?_
        first | (refine RS.q rfl (QO.load ty4 (by rfl) (by repeat (first | exact List.Mem.head _ | refine List.Mem.tail _ ?_)) (by rfl)) ?_) | (refine RS.q rfl (QO.loadO ty4 (by rfl) (by assumption)) ?_) | (refine RS.q rfl (QO.load ty4 (by rfl) (by repeat (first | exact List.Mem.head _ | refine List.Mem.tail _ ?_)) (by assumption)) ?_)
        refine RS.nil ?_
        refine thenC_n ?_
        refine CS.cond (by rfl) (fun hb12 => ?_) (fun hb12 => ?_)
        · refine CS.region ?_
          refine RS.q rfl (QO.move) ?_
          refine RS.farith rfl (by rfl) (by rfl) (by simp) ?_
          intro r93 hr93
          refine RS.q rfl (QO.assign) ?_
          refine RS.nil ?_
          refine thenC_n ?_
          refine CS.seq ?_
          refine CS.region ?_
          refine RS.q rfl (QO.move) ?_
          refine RS.call rfl (by rfl) ok57 (by rfl) (fun w ho => clean _ _) ?_
          rintro _ _ ⟨rfl, rfl⟩
          refine RS.q rfl (QO.assign) ?_
          refine RS.nil ?_
          refine thenC_n ?_
          refine CS.ret ?_
          refine retQ.mk (H' := []) (.inr rfl) (RVs.tmp (by rfl) RVs.nil) (List.nil_sublist _) ?_
          first | exact ⟨congrArg flt ((turn_T (by assumption) hr93 (ell_1 (least_1 (by assumption)) (by assumption) hr84 hr86 he89)).trans (cov_e hk)), rfl⟩ | exact ⟨congrArg flt ((turn_F (by assumption) (ell_1 (least_1 (by assumption)) (by assumption) hr84 hr86 he89)).trans (cov_e hk)), rfl⟩ | exact ⟨congrArg flt ((turn_T (by assumption) hr93 (ell_1 (least_2 (by assumption)) (by assumption) hr84 hr86 he89)).trans (cov_e hk)), rfl⟩ | exact ⟨congrArg flt ((turn_F (by assumption) (ell_1 (least_2 (by assumption)) (by assumption) hr84 hr86 he89)).trans (cov_e hk)), rfl⟩ | exact ⟨congrArg flt ((turn_T (by assumption) hr93 (ell_2 (by assumption))).trans (cov_e hk)), rfl⟩ | exact ⟨congrArg flt ((turn_F (by assumption) (ell_2 (by assumption))).trans (cov_e hk)), rfl⟩
        · refine CS.skip ?_
          refine thenC_n ?_
          refine CS.seq ?_
          refine CS.region ?_
          refine RS.q rfl (QO.move) ?_
          refine RS.call rfl (by rfl) ok57 (by rfl) (fun w ho => clean _ _) ?_
          rintro _ _ ⟨rfl, rfl⟩
          refine RS.q rfl (QO.assign) ?_
          refine RS.nil ?_
          refine thenC_n ?_
          refine CS.ret ?_
          refine retQ.mk (H' := []) (.inr rfl) (RVs.tmp (by rfl) RVs.nil) (List.nil_sublist _) ?_
          first | exact ⟨congrArg flt ((turn_T (by assumption) hr93 (ell_1 (least_1 (by assumption)) (by assumption) hr84 hr86 he89)).trans (cov_e hk)), rfl⟩ | exact ⟨congrArg flt ((turn_F (by assumption) (ell_1 (least_1 (by assumption)) (by assumption) hr84 hr86 he89)).trans (cov_e hk)), rfl⟩ | exact ⟨congrArg flt ((turn_T (by assumption) hr93 (ell_1 (least_2 (by assumption)) (by assumption) hr84 hr86 he89)).trans (cov_e hk)), rfl⟩ | exact ⟨congrArg flt ((turn_F (by assumption) (ell_1 (least_2 (by assumption)) (by assumption) hr84 hr86 he89)).trans (cov_e hk)), rfl⟩ | exact ⟨congrArg flt ((turn_T (by assumption) hr93 (ell_2 (by assumption))).trans (cov_e hk)), rfl⟩ | exact ⟨congrArg flt ((turn_F (by assumption) (ell_2 (by assumption))).trans (cov_e hk)), rfl⟩
      · refine CS.skip ?_
        refine blockC_n ?_
        refine thenC_n ?_
        refine CS.seq ?_
        refine CS.seq ?_
        refine CS.region ?_
        refine RS.q rfl (QO.fieldAddr fo61_7 (by rfl)) ?_
        first | (refine RS.q rfl (QO.load ty4 (by rfl) (by repeat (first | exact List.Mem.head _ | refine List.Mem.tail _ ?_)) (by rfl)) ?_) | (refine RS.q rfl (QO.loadO ty4 (by rfl) (by assumption)) ?_) | (refine RS.q rfl (QO.load ty4 (by rfl) (by repeat (first | exact List.Mem.head _ | refine List.Mem.tail _ ?_)) (by assumption)) ?_)
        refine RS.nil ?_
        refine thenC_n ?_
        refine CS.cond (by rfl) (fun hb13 => ?_) (fun hb13 => ?_)
        · refine CS.region ?_
          refine RS.q rfl (QO.move) ?_
          refine RS.farith rfl (by rfl) (by rfl) (by simp) ?_
          intro r93 hr93
          refine RS.q rfl (QO.assign) ?_
          refine RS.nil ?_
          refine thenC_n ?_
          refine CS.seq ?_
          refine CS.region ?_
          refine RS.q rfl (QO.move) ?_
          refine RS.call rfl (by rfl) ok57 (by rfl) (fun w ho => clean _ _) ?_
          rintro _ _ ⟨rfl, rfl⟩
          refine RS.q rfl (QO.assign) ?_
          refine RS.nil ?_
          refine thenC_n ?_
          refine CS.ret ?_
          refine retQ.mk (H' := []) (.inr rfl) (RVs.tmp (by rfl) RVs.nil) (List.nil_sublist _) ?_
          first | exact ⟨congrArg flt ((turn_T (by assumption) hr93 (ell_1 (least_1 (by assumption)) (by assumption) hr84 hr86 he89)).trans (cov_e hk)), rfl⟩ | exact ⟨congrArg flt ((turn_F (by assumption) (ell_1 (least_1 (by assumption)) (by assumption) hr84 hr86 he89)).trans (cov_e hk)), rfl⟩ | exact ⟨congrArg flt ((turn_T (by assumption) hr93 (ell_1 (least_2 (by assumption)) (by assumption) hr84 hr86 he89)).trans (cov_e hk)), rfl⟩ | exact ⟨congrArg flt ((turn_F (by assumption) (ell_1 (least_2 (by assumption)) (by assumption) hr84 hr86 he89)).trans (cov_e hk)), rfl⟩ | exact ⟨congrArg flt ((turn_T (by assumption) hr93 (ell_2 (by assumption))).trans (cov_e hk)), rfl⟩ | exact ⟨congrArg flt ((turn_F (by assumption) (ell_2 (by assumption))).trans (cov_e hk)), rfl⟩
        · refine CS.skip ?_
          refine thenC_n ?_
          refine CS.seq ?_
          refine CS.region ?_
          refine RS.q rfl (QO.move) ?_
          refine RS.call rfl (by rfl) ok57 (by rfl) (fun w ho => clean _ _) ?_
          rintro _ _ ⟨rfl, rfl⟩
          refine RS.q rfl (QO.assign) ?_
          refine RS.nil ?_
          refine thenC_n ?_
          refine CS.ret ?_
          refine retQ.mk (H' := []) (.inr rfl) (RVs.tmp (by rfl) RVs.nil) (List.nil_sublist _) ?_
          first | exact ⟨congrArg flt ((turn_T (by assumption) hr93 (ell_1 (least_1 (by assumption)) (by assumption) hr84 hr86 he89)).trans (cov_e hk)), rfl⟩ | exact ⟨congrArg flt ((turn_F (by assumption) (ell_1 (least_1 (by assumption)) (by assumption) hr84 hr86 he89)).trans (cov_e hk)), rfl⟩ | exact ⟨congrArg flt ((turn_T (by assumption) hr93 (ell_1 (least_2 (by assumption)) (by assumption) hr84 hr86 he89)).trans (cov_e hk)), rfl⟩ | exact ⟨congrArg flt ((turn_F (by assumption) (ell_1 (least_2 (by assumption)) (by assumption) hr84 hr86 he89)).trans (cov_e hk)), rfl⟩ | exact ⟨congrArg flt ((turn_T (by assumption) hr93 (ell_2 (by assumption))).trans (cov_e hk)), rfl⟩ | exact ⟨congrArg flt ((turn_F (by assumption) (ell_2 (by assumption))).trans (cov_e hk)), rfl⟩

set_option maxHeartbeats 4000000 in
set_option maxRecDepth 100000 in
theorem covPoly (u : Win) (A : Option Addr) (c : Nat) (x y p q : Int) (W : World) (hA : PS W A u.pts) (he : winE u = 0) (hp : fop .sub (cvF x) u.x = some (cvF p)) (hq : fop .sub (cvF y) u.y = some (cvF q)) (hp24 : p.natAbs ≤ 16777215) (hq24 : q.natAbs ≤ 16777215) (hx : x.natAbs ≤ 4194304) (hy : y.natAbs ≤ 4194304) (hk : u.kind = 3) : Fn_ Try.prog 90 #[.agg #[iv u.kind, flt u.x, flt u.y, flt u.w, flt u.h, flt u.soft, .slice A u.pts.length c, .bool u.out], iv x, iv y] W (fun v H => v = flt (covV u p q x y) ∧ H = []) := by
  have hl32 := (winE_pts he).1
  have hbd : ∀ i, i < u.pts.length → (u.pts.getD i (0, 0)).1.natAbs ≤ 2097152 ∧ (u.pts.getD i (0, 0)).2.natAbs ≤ 2097152 := fun i hi => by have := winE_place he hi; omega
  refine Fn_.intro Try.func90 rfl rfl (by rfl) ?_
  refine CS.seq ?_
  refine CS.region ?_
  refine RS.box rfl (by rfl) (by rfl) ?_
  intro g3
  refine RS.q rfl (QO.assign) ?_
  refine RS.nil ?_
  refine thenC_n ?_
  refine CS.seq ?_
  refine CS.region ?_
  refine RS.q rfl (QO.assign) ?_
  refine RS.nil ?_
  refine thenC_n ?_
  refine CS.seq ?_
  refine CS.seq ?_
  refine CS.draw 12 rfl (by kernel_rfl) (by kernel_rfl) ?_
  refine RT.take (i := 0) rfl (by kernel_rfl) rfl (QO.move) ?_
  refine RT.take (i := 1) rfl (by kernel_rfl) rfl (QO.conv_i64_f32 Try.underlying3 Try.underlying29 (by rfl)) ?_
  refine RT.take (i := 2) rfl (by kernel_rfl) rfl (QO.fieldAddr fo61_1 (by rfl)) ?_
  first | (refine RT.take (i := 3) rfl (by kernel_rfl) rfl (QO.load ty29 (by rfl) (by repeat (first | exact List.Mem.head _ | refine List.Mem.tail _ ?_)) (by rfl)) ?_) | (refine RT.take (i := 3) rfl (by kernel_rfl) rfl (QO.loadO ty29 (by rfl) (by assumption)) ?_) | (refine RT.take (i := 3) rfl (by kernel_rfl) rfl (QO.load ty29 (by rfl) (by repeat (first | exact List.Mem.head _ | refine List.Mem.tail _ ?_)) (by assumption)) ?_)
  refine RT.take (i := 4) rfl (by kernel_rfl) rfl (QO.fsubS (by rfl) (by rfl) hp) ?_
  refine RT.take (i := 5) rfl (by kernel_rfl) rfl (QO.move) ?_
  refine RT.take (i := 6) rfl (by kernel_rfl) rfl (QO.conv_i64_f32 Try.underlying3 Try.underlying29 (by rfl)) ?_
  refine RT.take (i := 7) rfl (by kernel_rfl) rfl (QO.fieldAddr fo61_2 (by rfl)) ?_
  first | (refine RT.take (i := 8) rfl (by kernel_rfl) rfl (QO.load ty29 (by rfl) (by repeat (first | exact List.Mem.head _ | refine List.Mem.tail _ ?_)) (by rfl)) ?_) | (refine RT.take (i := 8) rfl (by kernel_rfl) rfl (QO.loadO ty29 (by rfl) (by assumption)) ?_) | (refine RT.take (i := 8) rfl (by kernel_rfl) rfl (QO.load ty29 (by rfl) (by repeat (first | exact List.Mem.head _ | refine List.Mem.tail _ ?_)) (by assumption)) ?_)
  refine RT.take (i := 9) rfl (by kernel_rfl) rfl (QO.fsubS (by rfl) (by rfl) hq) ?_
  refine RT.take (i := 10) rfl (by kernel_rfl) rfl (QO.assign) ?_
  refine RT.take (i := 11) rfl (by kernel_rfl) rfl (QO.assign) ?_
  refine RT.done (by kernel_rfl) ?_
  refine thenC_n ?_
  refine CS.seq ?_
  refine CS.region ?_
  refine RS.q rfl (QO.fieldAddr fo61_0 (by rfl)) ?_
  first | (refine RS.q rfl (QO.load ty3 (by rfl) (by repeat (first | exact List.Mem.head _ | refine List.Mem.tail _ ?_)) (by rfl)) ?_) | (refine RS.q rfl (QO.loadO ty3 (by rfl) (by assumption)) ?_) | (refine RS.q rfl (QO.load ty3 (by rfl) (by repeat (first | exact List.Mem.head _ | refine List.Mem.tail _ ?_)) (by assumption)) ?_)
  refine RS.nil ?_
  refine thenC_n ?_
  refine CS.block ?_
  refine CS.seq ?_
  refine CS.region ?_
  refine RS.qv rfl (QO.eql (by rfl) (by rfl)) (congrArg Value.bool (show (u.kind == 1) = false from beq_eq_false_iff_ne.2 (by omega))) ?_
  refine RS.q rfl (QO.assign) ?_
  refine RS.nil ?_
  refine thenC_n ?_
  refine CS.condF (by rfl) rfl ?_
  refine CS.seq ?_
  refine CS.region ?_
  refine RS.qv rfl (QO.eql (by rfl) (by rfl)) (congrArg Value.bool (show (u.kind == 2) = false from beq_eq_false_iff_ne.2 (by omega))) ?_
  refine RS.q rfl (QO.assign) ?_
  refine RS.nil ?_
  refine thenC_n ?_
  refine CS.condF (by rfl) rfl ?_
  refine CS.seq ?_
  refine CS.region ?_
  refine RS.q rfl (QO.fieldAddr fo61_6 (by rfl)) ?_
  first | (refine RS.q rfl (QO.load ty59 (by rfl) (by repeat (first | exact List.Mem.head _ | refine List.Mem.tail _ ?_)) (by rfl)) ?_) | (refine RS.q rfl (QO.loadO ty59 (by rfl) (by assumption)) ?_) | (refine RS.q rfl (QO.load ty59 (by rfl) (by repeat (first | exact List.Mem.head _ | refine List.Mem.tail _ ?_)) (by assumption)) ?_)
  refine RS.q rfl (QO.move) ?_
  refine RS.q rfl (QO.move) ?_
  refine RS.call rfl (by rfl) ok136 (by rfl) (fun w ho => crossings_ A c u.pts x y _ (hA.own ho) (by omega) hbd hx hy) ?_
  rintro _ _ ⟨rfl, rfl⟩
  refine RS.qv rfl (QO.rem (by rfl) (by rfl) (by omega)) (congrArg iv (tm0 _ 2)) ?_
  refine RS.q rfl (QO.eql (by rfl) (by rfl)) ?_
  refine RS.nil ?_
  refine thenC_n ?_
  refine CS.cond (by rfl) (fun hb0 => ?_) (fun hb0 => ?_)
  · have hb0p := eq_of_beq hb0
    refine CS.region ?_
    refine RS.q rfl (QO.assign) ?_
    refine RS.nil ?_
    refine blockC_n ?_
    refine thenC_n ?_
    refine CS.seq ?_
    refine CS.seq ?_
    refine CS.region ?_
    refine RS.q rfl (QO.fieldAddr fo61_7 (by rfl)) ?_
    first | (refine RS.q rfl (QO.load ty4 (by rfl) (by repeat (first | exact List.Mem.head _ | refine List.Mem.tail _ ?_)) (by rfl)) ?_) | (refine RS.q rfl (QO.loadO ty4 (by rfl) (by assumption)) ?_) | (refine RS.q rfl (QO.load ty4 (by rfl) (by repeat (first | exact List.Mem.head _ | refine List.Mem.tail _ ?_)) (by assumption)) ?_)
    refine RS.nil ?_
    refine thenC_n ?_
    refine CS.cond (by rfl) (fun hb1 => ?_) (fun hb1 => ?_)
    · refine CS.region ?_
      refine RS.q rfl (QO.move) ?_
      refine RS.farith rfl (by rfl) (by rfl) (by simp) ?_
      intro r93 hr93
      refine RS.q rfl (QO.assign) ?_
      refine RS.nil ?_
      refine thenC_n ?_
      refine CS.seq ?_
      refine CS.region ?_
      refine RS.q rfl (QO.move) ?_
      refine RS.call rfl (by rfl) ok57 (by rfl) (fun w ho => clean _ _) ?_
      rintro _ _ ⟨rfl, rfl⟩
      refine RS.q rfl (QO.assign) ?_
      refine RS.nil ?_
      refine thenC_n ?_
      refine CS.ret ?_
      refine retQ.mk (H' := []) (.inr rfl) (RVs.tmp (by rfl) RVs.nil) (List.nil_sublist _) ?_
      first | exact ⟨congrArg flt ((turn_T (by assumption) hr93 (poly_1 (by assumption))).trans (cov_p hk)), rfl⟩ | exact ⟨congrArg flt ((turn_F (by assumption) (poly_1 (by assumption))).trans (cov_p hk)), rfl⟩ | exact ⟨congrArg flt ((turn_T (by assumption) hr93 (poly_2 (by assumption))).trans (cov_p hk)), rfl⟩ | exact ⟨congrArg flt ((turn_F (by assumption) (poly_2 (by assumption))).trans (cov_p hk)), rfl⟩
    · refine CS.skip ?_
      refine thenC_n ?_
      refine CS.seq ?_
      refine CS.region ?_
      refine RS.q rfl (QO.move) ?_
      refine RS.call rfl (by rfl) ok57 (by rfl) (fun w ho => clean _ _) ?_
      rintro _ _ ⟨rfl, rfl⟩
      refine RS.q rfl (QO.assign) ?_
      refine RS.nil ?_
      refine thenC_n ?_
      refine CS.ret ?_
      refine retQ.mk (H' := []) (.inr rfl) (RVs.tmp (by rfl) RVs.nil) (List.nil_sublist _) ?_
      first | exact ⟨congrArg flt ((turn_T (by assumption) hr93 (poly_1 (by assumption))).trans (cov_p hk)), rfl⟩ | exact ⟨congrArg flt ((turn_F (by assumption) (poly_1 (by assumption))).trans (cov_p hk)), rfl⟩ | exact ⟨congrArg flt ((turn_T (by assumption) hr93 (poly_2 (by assumption))).trans (cov_p hk)), rfl⟩ | exact ⟨congrArg flt ((turn_F (by assumption) (poly_2 (by assumption))).trans (cov_p hk)), rfl⟩
  · have hb0p := ne_of_beq_false hb0
    refine CS.skip ?_
    refine blockC_n ?_
    refine thenC_n ?_
    refine CS.seq ?_
    refine CS.seq ?_
    refine CS.region ?_
    refine RS.q rfl (QO.fieldAddr fo61_7 (by rfl)) ?_
    first | (refine RS.q rfl (QO.load ty4 (by rfl) (by repeat (first | exact List.Mem.head _ | refine List.Mem.tail _ ?_)) (by rfl)) ?_) | (refine RS.q rfl (QO.loadO ty4 (by rfl) (by assumption)) ?_) | (refine RS.q rfl (QO.load ty4 (by rfl) (by repeat (first | exact List.Mem.head _ | refine List.Mem.tail _ ?_)) (by assumption)) ?_)
    refine RS.nil ?_
    refine thenC_n ?_
    refine CS.cond (by rfl) (fun hb2 => ?_) (fun hb2 => ?_)
    · refine CS.region ?_
      refine RS.q rfl (QO.move) ?_
      refine RS.farith rfl (by rfl) (by rfl) (by simp) ?_
      intro r93 hr93
      refine RS.q rfl (QO.assign) ?_
      refine RS.nil ?_
      refine thenC_n ?_
      refine CS.seq ?_
      refine CS.region ?_
      refine RS.q rfl (QO.move) ?_
      refine RS.call rfl (by rfl) ok57 (by rfl) (fun w ho => clean _ _) ?_
      rintro _ _ ⟨rfl, rfl⟩
      refine RS.q rfl (QO.assign) ?_
      refine RS.nil ?_
      refine thenC_n ?_
      refine CS.ret ?_
      refine retQ.mk (H' := []) (.inr rfl) (RVs.tmp (by rfl) RVs.nil) (List.nil_sublist _) ?_
      first | exact ⟨congrArg flt ((turn_T (by assumption) hr93 (poly_1 (by assumption))).trans (cov_p hk)), rfl⟩ | exact ⟨congrArg flt ((turn_F (by assumption) (poly_1 (by assumption))).trans (cov_p hk)), rfl⟩ | exact ⟨congrArg flt ((turn_T (by assumption) hr93 (poly_2 (by assumption))).trans (cov_p hk)), rfl⟩ | exact ⟨congrArg flt ((turn_F (by assumption) (poly_2 (by assumption))).trans (cov_p hk)), rfl⟩
    · refine CS.skip ?_
      refine thenC_n ?_
      refine CS.seq ?_
      refine CS.region ?_
      refine RS.q rfl (QO.move) ?_
      refine RS.call rfl (by rfl) ok57 (by rfl) (fun w ho => clean _ _) ?_
      rintro _ _ ⟨rfl, rfl⟩
      refine RS.q rfl (QO.assign) ?_
      refine RS.nil ?_
      refine thenC_n ?_
      refine CS.ret ?_
      refine retQ.mk (H' := []) (.inr rfl) (RVs.tmp (by rfl) RVs.nil) (List.nil_sublist _) ?_
      first | exact ⟨congrArg flt ((turn_T (by assumption) hr93 (poly_1 (by assumption))).trans (cov_p hk)), rfl⟩ | exact ⟨congrArg flt ((turn_F (by assumption) (poly_1 (by assumption))).trans (cov_p hk)), rfl⟩ | exact ⟨congrArg flt ((turn_T (by assumption) hr93 (poly_2 (by assumption))).trans (cov_p hk)), rfl⟩ | exact ⟨congrArg flt ((turn_F (by assumption) (poly_2 (by assumption))).trans (cov_p hk)), rfl⟩

theorem cov_ (u : Win) (A : Option Addr) (c : Nat) (x y p q : Int) (W : World) (hA : PS W A u.pts) (he : winE u = 0) (hp : fop .sub (cvF x) u.x = some (cvF p)) (hq : fop .sub (cvF y) u.y = some (cvF q)) (hp24 : p.natAbs ≤ 16777215) (hq24 : q.natAbs ≤ 16777215) (hx : x.natAbs ≤ 4194304) (hy : y.natAbs ≤ 4194304) : Fn_ Try.prog 90 #[.agg #[iv u.kind, flt u.x, flt u.y, flt u.w, flt u.h, flt u.soft, .slice A u.pts.length c, .bool u.out], iv x, iv y] W (fun v H => v = flt (covV u p q x y) ∧ H = []) := by
  rcases (winE_ok he).1 with hk | hk | hk
  · exact covBox u A c x y p q W hA he hp hq hp24 hq24 hx hy hk
  · exact covEll u A c x y p q W hA he hp hq hp24 hq24 hx hy hk
  · exact covPoly u A c x y p q W hA he hp hq hp24 hq24 hx hy hk
def covF (u : Win) (X Y : Int) (a : Nat) (m n : Int) (i : Nat) : Nat := covV u (X + ((i % a : Nat) : Int) - m) (Y + ((i / a : Nat) : Int) - n) (X + ((i % a : Nat) : Int)) (Y + ((i / a : Nat) : Int))

set_option maxRecDepth 100000 in
theorem wmBad1 (u : Win) (A : Option Addr) (c : Nat) (X Y : Int) (a b : Nat) (W : World) (hA : PS W A u.pts) (hm : u.pts.length ≤ maxLen) (he : winE u ≠ 0) : Fn_ Try.prog 31 #[.agg #[iv u.kind, flt u.x, flt u.y, flt u.w, flt u.h, flt u.soft, .slice A u.pts.length c, .bool u.out], .agg #[iv X, iv Y, iv (a : Int), iv (b : Int)]] W (fun v H => v = .tuple #[.agg #[iv 0, iv 0, iv 0, iv 0, .slice none 0 0], iv (winE u)] ∧ H = []) := by
  refine Fn_.intro Try.func31 rfl rfl (by rfl) ?_
  refine CS.seq ?_
  refine CS.region ?_
  refine RS.box rfl (by rfl) (by rfl) ?_
  intro g2
  refine RS.box rfl (by rfl) (by rfl) ?_
  intro g3
  refine RS.alloc rfl ty70 ?_
  intro g4
  refine RS.q rfl (QO.assign) ?_
  refine RS.nil ?_
  refine thenC_n ?_
  refine CS.seq ?_
  refine CS.seq ?_
  refine CS.region ?_
  first | (refine RS.q rfl (QO.loadB ty61 (by rfl) (by repeat (first | exact List.Mem.head _ | refine List.Mem.tail _ ?_)) (by rfl)) ?_) | (refine RS.q rfl (QO.loadA ty61 (by rfl) (by repeat (first | exact List.Mem.head _ | refine List.Mem.tail _ ?_)) (by rfl) (by rfl)) ?_) | (refine RS.q rfl (QO.loadOA ty61 (by rfl) (by assumption) (by rfl)) ?_)
  refine RS.call rfl (by rfl) ok74 (by rfl) (fun w ho => checkWindow u A c _ (hA.own ho) hm) ?_
  rintro _ _ ⟨rfl, rfl⟩
  refine RS.q rfl (QO.assign) ?_
  refine RS.nil ?_
  refine thenC_n ?_
  refine CS.seq ?_
  refine CS.region ?_
  refine RS.q rfl (QO.move) ?_
  refine RS.qv rfl (QO.neq (by rfl) (by rfl)) (congrArg Value.bool (show (winE u != 0) = true from bne_iff_ne.2 he)) ?_
  refine RS.nil ?_
  refine thenC_n ?_
  refine CS.condT (by rfl) rfl ?_
  refine CS.seq ?_
  refine CS.region ?_
  refine RS.q rfl (QO.build ty70 pl70 (by rfl)) ?_
  refine RS.q rfl (QO.move) ?_
  first | refine RS.storeB ty70 (by rfl) (by rfl) (by rfl) (by rfl) (by rfl) (by repeat (first | exact Upd.head | apply Upd.tail)) (by rfl) ?_ | refine RS.storeP ty70 (by rfl) (by rfl) (by rfl) (by rfl) (by rfl) (by repeat (first | exact Upd.head | apply Upd.tail)) (by rfl) ?_
  refine RS.q rfl (QO.assign) ?_
  refine RS.nil ?_
  refine thenC_n ?_
  refine CS.ret ?_
  refine thenC_r ?_
  refine retQ.mk (H' := []) (.inr rfl) (RVs.cellA ty70 (by rfl) (by repeat (first | exact List.Mem.head _ | refine List.Mem.tail _ ?_)) (by rfl) (RVs.tmp (by rfl) RVs.nil)) (List.nil_sublist _) ?_
  exact ⟨rfl, rfl⟩

set_option maxRecDepth 100000 in
theorem wmBad2 (u : Win) (A : Option Addr) (c : Nat) (X Y : Int) (a b : Nat) (W : World) (hA : PS W A u.pts) (hm : u.pts.length ≤ maxLen) (he : winE u = 0) (hr : regErr X Y (a : Int) (b : Int) ≠ 0) : Fn_ Try.prog 31 #[.agg #[iv u.kind, flt u.x, flt u.y, flt u.w, flt u.h, flt u.soft, .slice A u.pts.length c, .bool u.out], .agg #[iv X, iv Y, iv (a : Int), iv (b : Int)]] W (fun v H => v = .tuple #[.agg #[iv 0, iv 0, iv 0, iv 0, .slice none 0 0], iv (regErr X Y (a : Int) (b : Int))] ∧ H = []) := by
  refine Fn_.intro Try.func31 rfl rfl (by rfl) ?_
  refine CS.seq ?_
  refine CS.region ?_
  refine RS.box rfl (by rfl) (by rfl) ?_
  intro g2
  refine RS.box rfl (by rfl) (by rfl) ?_
  intro g3
  refine RS.alloc rfl ty70 ?_
  intro g4
  refine RS.q rfl (QO.assign) ?_
  refine RS.nil ?_
  refine thenC_n ?_
  refine CS.seq ?_
  refine CS.seq ?_
  refine CS.region ?_
  first | (refine RS.q rfl (QO.loadB ty61 (by rfl) (by repeat (first | exact List.Mem.head _ | refine List.Mem.tail _ ?_)) (by rfl)) ?_) | (refine RS.q rfl (QO.loadA ty61 (by rfl) (by repeat (first | exact List.Mem.head _ | refine List.Mem.tail _ ?_)) (by rfl) (by rfl)) ?_) | (refine RS.q rfl (QO.loadOA ty61 (by rfl) (by assumption) (by rfl)) ?_)
  refine RS.call rfl (by rfl) ok74 (by rfl) (fun w ho => checkWindow u A c _ (hA.own ho) hm) ?_
  rintro _ _ ⟨rfl, rfl⟩
  refine RS.q rfl (QO.assign) ?_
  refine RS.nil ?_
  refine thenC_n ?_
  refine CS.seq ?_
  refine CS.region ?_
  refine RS.q rfl (QO.move) ?_
  refine RS.qv rfl (QO.neq (by rfl) (by rfl)) (congrArg Value.bool (show (winE u != 0) = false from by rw [he]; rfl)) ?_
  refine RS.nil ?_
  refine thenC_n ?_
  refine CS.condF (by rfl) rfl ?_
  refine CS.skip ?_
  refine thenC_n ?_
  refine CS.seq ?_
  refine CS.seq ?_
  refine CS.region ?_
  first | (refine RS.q rfl (QO.loadB ty23 (by rfl) (by repeat (first | exact List.Mem.head _ | refine List.Mem.tail _ ?_)) (by rfl)) ?_) | (refine RS.q rfl (QO.loadA ty23 (by rfl) (by repeat (first | exact List.Mem.head _ | refine List.Mem.tail _ ?_)) (by rfl) (by rfl)) ?_) | (refine RS.q rfl (QO.loadOA ty23 (by rfl) (by assumption) (by rfl)) ?_)
  refine RS.call rfl (by rfl) ok89 (by rfl) (fun w ho => checkRegion X Y (a : Int) (b : Int) _) ?_
  rintro _ _ ⟨rfl, rfl⟩
  refine RS.q rfl (QO.assign) ?_
  refine RS.nil ?_
  refine thenC_n ?_
  refine CS.seq ?_
  refine CS.region ?_
  refine RS.q rfl (QO.move) ?_
  refine RS.qv rfl (QO.neq (by rfl) (by rfl)) (congrArg Value.bool (show (regErr X Y (a : Int) (b : Int) != 0) = true from bne_iff_ne.2 hr)) ?_
  refine RS.nil ?_
  refine thenC_n ?_
  refine CS.condT (by rfl) rfl ?_
  refine CS.seq ?_
  refine CS.region ?_
  refine RS.q rfl (QO.build ty70 pl70 (by rfl)) ?_
  refine RS.q rfl (QO.move) ?_
  first | refine RS.storeB ty70 (by rfl) (by rfl) (by rfl) (by rfl) (by rfl) (by repeat (first | exact Upd.head | apply Upd.tail)) (by rfl) ?_ | refine RS.storeP ty70 (by rfl) (by rfl) (by rfl) (by rfl) (by rfl) (by repeat (first | exact Upd.head | apply Upd.tail)) (by rfl) ?_
  refine RS.q rfl (QO.assign) ?_
  refine RS.nil ?_
  refine thenC_n ?_
  refine CS.ret ?_
  refine thenC_r ?_
  refine retQ.mk (H' := []) (.inr rfl) (RVs.cellA ty70 (by rfl) (by repeat (first | exact List.Mem.head _ | refine List.Mem.tail _ ?_)) (by rfl) (RVs.tmp (by rfl) RVs.nil)) (List.nil_sublist _) ?_
  exact ⟨rfl, rfl⟩

set_option maxHeartbeats 4000000 in
set_option maxRecDepth 100000 in
theorem wmOk (u : Win) (A : Option Addr) (c : Nat) (X Y : Int) (a b : Nat) (W : World) (hA : PS W A u.pts) (hm : u.pts.length ≤ maxLen) (m n : Int) (he : winE u = 0) (hr : regErr X Y (a : Int) (b : Int) = 0) (ha : 1 ≤ a ∧ a ≤ 16) (hb : 1 ≤ b ∧ b ≤ 16) (hwx : whl u.x m) (hwy : whl u.y n) : Fn_ Try.prog 31 #[.agg #[iv u.kind, flt u.x, flt u.y, flt u.w, flt u.h, flt u.soft, .slice A u.pts.length c, .bool u.out], .agg #[iv X, iv Y, iv (a : Int), iv (b : Int)]] W (fun v H => ∃ g, v = .tuple #[.agg #[iv X, iv Y, iv (a : Int), iv (b : Int), .slice (some ⟨g, 0, none⟩) (a * b) (a * b)], iv 0] ∧ H = [⟨g, 29, ((List.range (a * b)).map (covF u X Y a m n)).map flt⟩]) := by
  have hxy := winE_xy he
  have hmb := whl_bd hwx hxy.1 hxy.2.1
  have hnb := whl_bd hwy hxy.2.2.1 hxy.2.2.2
  have hro := regErr_ok hr
  have hpos := Nat.mul_le_mul ha.1 hb.1
  have hup := Nat.mul_le_mul ha.2 hb.2
  have hcast : ((a * b : Nat) : Int) = (a : Int) * (b : Int) := Int.natCast_mul ..
  refine Fn_.intro Try.func31 rfl rfl (by rfl) ?_
  refine CS.seq ?_
  refine CS.region ?_
  refine RS.box rfl (by rfl) (by rfl) ?_
  intro g2
  refine RS.box rfl (by rfl) (by rfl) ?_
  intro g3
  refine RS.alloc rfl ty70 ?_
  intro g4
  refine RS.q rfl (QO.assign) ?_
  refine RS.nil ?_
  refine thenC_n ?_
  refine CS.seq ?_
  refine CS.seq ?_
  refine CS.region ?_
  first | (refine RS.q rfl (QO.loadB ty61 (by rfl) (by repeat (first | exact List.Mem.head _ | refine List.Mem.tail _ ?_)) (by rfl)) ?_) | (refine RS.q rfl (QO.loadA ty61 (by rfl) (by repeat (first | exact List.Mem.head _ | refine List.Mem.tail _ ?_)) (by rfl) (by rfl)) ?_) | (refine RS.q rfl (QO.loadOA ty61 (by rfl) (by assumption) (by rfl)) ?_)
  refine RS.call rfl (by rfl) ok74 (by rfl) (fun w ho => checkWindow u A c _ (hA.own ho) hm) ?_
  rintro _ _ ⟨rfl, rfl⟩
  refine RS.q rfl (QO.assign) ?_
  refine RS.nil ?_
  refine thenC_n ?_
  refine CS.seq ?_
  refine CS.region ?_
  refine RS.q rfl (QO.move) ?_
  refine RS.qv rfl (QO.neq (by rfl) (by rfl)) (congrArg Value.bool (show (winE u != 0) = false from by rw [he]; rfl)) ?_
  refine RS.nil ?_
  refine thenC_n ?_
  refine CS.condF (by rfl) rfl ?_
  refine CS.skip ?_
  refine thenC_n ?_
  refine CS.seq ?_
  refine CS.seq ?_
  refine CS.region ?_
  first | (refine RS.q rfl (QO.loadB ty23 (by rfl) (by repeat (first | exact List.Mem.head _ | refine List.Mem.tail _ ?_)) (by rfl)) ?_) | (refine RS.q rfl (QO.loadA ty23 (by rfl) (by repeat (first | exact List.Mem.head _ | refine List.Mem.tail _ ?_)) (by rfl) (by rfl)) ?_) | (refine RS.q rfl (QO.loadOA ty23 (by rfl) (by assumption) (by rfl)) ?_)
  refine RS.call rfl (by rfl) ok89 (by rfl) (fun w ho => checkRegion X Y (a : Int) (b : Int) _) ?_
  rintro _ _ ⟨rfl, rfl⟩
  refine RS.q rfl (QO.assign) ?_
  refine RS.nil ?_
  refine thenC_n ?_
  refine CS.seq ?_
  refine CS.region ?_
  refine RS.q rfl (QO.move) ?_
  refine RS.qv rfl (QO.neq (by rfl) (by rfl)) (congrArg Value.bool (show (regErr X Y (a : Int) (b : Int) != 0) = false from by rw [hr]; rfl)) ?_
  refine RS.nil ?_
  refine thenC_n ?_
  refine CS.condF (by rfl) rfl ?_
  refine CS.skip ?_
  refine thenC_n ?_
  refine CS.cut (X := Nat × Nat) [8, 22, 23, 24, 25, 26, 27, 28, 29] (fun z => [(8, .pointer (some ⟨z.1, 0, none⟩))]) (fun z => [⟨z.1, 70, [iv X, iv Y, iv (a : Int), iv (b : Int), .slice (some ⟨z.2, 0, none⟩) (a * b) (a * b)]⟩, ⟨z.2, 29, partL (covF u X Y a m n) (a * b) 0⟩, ⟨g4, 70, [iv 0, iv 0, iv 0, iv 0, .slice none 0 0]⟩, ⟨g3, 23, [iv X, iv Y, iv (a : Int), iv (b : Int)]⟩, ⟨g2, 61, [iv u.kind, flt u.x, flt u.y, flt u.w, flt u.h, flt u.soft, .slice A u.pts.length c, .bool u.out]⟩]) (fun z => True) ?_ ?_
  · refine CS.draw 9 rfl (by kernel_rfl) (by kernel_rfl) ?_
    first | (refine RT.take (i := 0) rfl (by kernel_rfl) rfl (QO.loadB ty23 (by rfl) (by repeat (first | exact List.Mem.head _ | refine List.Mem.tail _ ?_)) (by rfl)) ?_) | (refine RT.take (i := 0) rfl (by kernel_rfl) rfl (QO.loadA ty23 (by rfl) (by repeat (first | exact List.Mem.head _ | refine List.Mem.tail _ ?_)) (by rfl) (by rfl)) ?_) | (refine RT.take (i := 0) rfl (by kernel_rfl) rfl (QO.loadOA ty23 (by rfl) (by assumption) (by rfl)) ?_)
    refine RT.take (i := 1) rfl (by kernel_rfl) rfl (QO.fieldAddr fo23_2 (by rfl)) ?_
    first | (refine RT.take (i := 2) rfl (by kernel_rfl) rfl (QO.load ty3 (by rfl) (by repeat (first | exact List.Mem.head _ | refine List.Mem.tail _ ?_)) (by rfl)) ?_) | (refine RT.take (i := 2) rfl (by kernel_rfl) rfl (QO.loadO ty3 (by rfl) (by assumption)) ?_) | (refine RT.take (i := 2) rfl (by kernel_rfl) rfl (QO.load ty3 (by rfl) (by repeat (first | exact List.Mem.head _ | refine List.Mem.tail _ ?_)) (by assumption)) ?_)
    refine RT.take (i := 3) rfl (by kernel_rfl) rfl (QO.fieldAddr fo23_3 (by rfl)) ?_
    first | (refine RT.take (i := 4) rfl (by kernel_rfl) rfl (QO.load ty3 (by rfl) (by repeat (first | exact List.Mem.head _ | refine List.Mem.tail _ ?_)) (by rfl)) ?_) | (refine RT.take (i := 4) rfl (by kernel_rfl) rfl (QO.loadO ty3 (by rfl) (by assumption)) ?_) | (refine RT.take (i := 4) rfl (by kernel_rfl) rfl (QO.load ty3 (by rfl) (by repeat (first | exact List.Mem.head _ | refine List.Mem.tail _ ?_)) (by assumption)) ?_)
    first | (refine RT.takev (i := 5) rfl (by kernel_rfl) rfl (QO.mul (by rfl) (by rfl) (by omega) (by omega)) (congrArg iv hcast.symm) ?_) | (refine RT.takev (i := 5) rfl (by kernel_rfl) rfl (QO.ibin (by rfl) (by rfl) trivial) (congrArg iv hcast.symm) ?_)
    refine RT.two (i := 6) (j := 8) (by kernel_rfl) rfl rfl ?_ ?_
    · refine RS.make rfl Try.underlying24 ty29 (by rfl) (by rfl) (by omega) (by omega) (by omega) (by omega) ?_
      intro g28
      refine RS.nil ⟨(by repeat (first | exact List.Sublist.refl _ | exact List.nil_sublist _ | refine List.Sublist.cons_cons _ ?_ | refine List.Sublist.cons _ ?_ | exact Sbp.refl | exact Sbp.nil | refine Sbp.cons (by repeat (first | exact Rem.head | apply Rem.tail)) ?_ | exact Sbp.app | refine Sbp.skip ?_ | exact List.sublist_append_left _ _ | exact List.sublist_append_right _ _)), ?_⟩
      refine RT.takev (i := 7) rfl (by kernel_rfl) rfl (QO.build ty70 pl70 (by rfl)) (show _ = Value.agg #[iv X, iv Y, iv (a : Int), iv (b : Int), .slice (some ⟨g28, 0, none⟩) (a * b) (a * b)] from rfl) ?_
      refine RT.one (i := 8) (by kernel_rfl) rfl rfl ?_
      refine RS.alloc rfl ty70 ?_
      intro g8
      refine RS.nil ⟨(by repeat (first | exact List.Sublist.refl _ | exact List.nil_sublist _ | refine List.Sublist.cons_cons _ ?_ | refine List.Sublist.cons _ ?_ | exact Sbp.refl | exact Sbp.nil | refine Sbp.cons (by repeat (first | exact Rem.head | apply Rem.tail)) ?_ | exact Sbp.app | refine Sbp.skip ?_ | exact List.sublist_append_left _ _ | exact List.sublist_append_right _ _)), ?_⟩
      refine RT.tail (i := 9) (by kernel_rfl) rfl rfl ?_
      first | refine RS.storeB ty70 (by rfl) (by rfl) (by rfl) (by rfl) (by rfl) (by repeat (first | exact Upd.head | apply Upd.tail)) (by rfl) ?_ | refine RS.storeP ty70 (by rfl) (by rfl) (by rfl) (by rfl) (by rfl) (by repeat (first | exact Upd.head | apply Upd.tail)) (by rfl) ?_
      refine RS.nil ?_
      refine RT.done (by kernel_rfl) ?_
      refine cutQ_n (by intro t ht; repeat (first | with_reducible exact rfl | exact frame_puts ht (frame_mix ht) _ rfl | (refine frame_put rfl ht ?_) | (refine frame_puts ht ?_ _ rfl) | exact frame_mix ht | (refine frame_mix2 rfl ht ?_) | exact rfl)) ?_
      exact ⟨(g8, g28), trivial, (by repeat (first | exact kn_nil | refine kn_cons (by rfl) ?_)), (by rw [partL_zero]; exact (by repeat (first | exact List.Sublist.refl _ | exact List.nil_sublist _ | refine List.Sublist.cons_cons _ ?_ | refine List.Sublist.cons _ ?_ | exact Sbp.refl | exact Sbp.nil | refine Sbp.cons (by repeat (first | exact Rem.head | apply Rem.tail)) ?_ | exact Sbp.app | refine Sbp.skip ?_ | exact List.sublist_append_left _ _ | exact List.sublist_append_right _ _)))⟩
    · refine RS.alloc rfl ty70 ?_
      intro g8
      refine RS.nil ⟨(by repeat (first | exact List.Sublist.refl _ | exact List.nil_sublist _ | refine List.Sublist.cons_cons _ ?_ | refine List.Sublist.cons _ ?_ | exact Sbp.refl | exact Sbp.nil | refine Sbp.cons (by repeat (first | exact Rem.head | apply Rem.tail)) ?_ | exact Sbp.app | refine Sbp.skip ?_ | exact List.sublist_append_left _ _ | exact List.sublist_append_right _ _)), ?_⟩
      refine RT.one (i := 6) (by kernel_rfl) rfl rfl ?_
      refine RS.make rfl Try.underlying24 ty29 (by rfl) (by rfl) (by omega) (by omega) (by omega) (by omega) ?_
      intro g28
      refine RS.nil ⟨(by repeat (first | exact List.Sublist.refl _ | exact List.nil_sublist _ | refine List.Sublist.cons_cons _ ?_ | refine List.Sublist.cons _ ?_ | exact Sbp.refl | exact Sbp.nil | refine Sbp.cons (by repeat (first | exact Rem.head | apply Rem.tail)) ?_ | exact Sbp.app | refine Sbp.skip ?_ | exact List.sublist_append_left _ _ | exact List.sublist_append_right _ _)), ?_⟩
      refine RT.takev (i := 7) rfl (by kernel_rfl) rfl (QO.build ty70 pl70 (by rfl)) (show _ = Value.agg #[iv X, iv Y, iv (a : Int), iv (b : Int), .slice (some ⟨g28, 0, none⟩) (a * b) (a * b)] from rfl) ?_
      refine RT.tail (i := 9) (by kernel_rfl) rfl rfl ?_
      first | refine RS.storeB ty70 (by rfl) (by rfl) (by rfl) (by rfl) (by rfl) (by repeat (first | exact Upd.head | apply Upd.tail)) (by rfl) ?_ | refine RS.storeP ty70 (by rfl) (by rfl) (by rfl) (by rfl) (by rfl) (by repeat (first | exact Upd.head | apply Upd.tail)) (by rfl) ?_
      refine RS.nil ?_
      refine RT.done (by kernel_rfl) ?_
      refine cutQ_n (by intro t ht; repeat (first | with_reducible exact rfl | exact frame_puts ht (frame_mix ht) _ rfl | (refine frame_put rfl ht ?_) | (refine frame_puts ht ?_ _ rfl) | exact frame_mix ht | (refine frame_mix2 rfl ht ?_) | exact rfl)) ?_
      exact ⟨(g8, g28), trivial, (by repeat (first | exact kn_nil | refine kn_cons (by rfl) ?_)), (by rw [partL_zero]; exact (by repeat (first | exact List.Sublist.refl _ | exact List.nil_sublist _ | refine List.Sublist.cons_cons _ ?_ | refine List.Sublist.cons _ ?_ | exact Sbp.refl | exact Sbp.nil | refine Sbp.cons (by repeat (first | exact Rem.head | apply Rem.tail)) ?_ | exact Sbp.app | refine Sbp.skip ?_ | exact List.sublist_append_left _ _ | exact List.sublist_append_right _ _)))⟩
  · intro z gj hz
    obtain ⟨g8, gm⟩ := z
    show CS _ _ _ _ _ (puts (mix _ _ _) [(8, .pointer (some ⟨g8, 0, none⟩))]) ([⟨g8, 70, [iv X, iv Y, iv (a : Int), iv (b : Int), .slice (some ⟨gm, 0, none⟩) (a * b) (a * b)]⟩, ⟨gm, 29, partL (covF u X Y a m n) (a * b) 0⟩, ⟨g4, 70, [iv 0, iv 0, iv 0, iv 0, .slice none 0 0]⟩, ⟨g3, 23, [iv X, iv Y, iv (a : Int), iv (b : Int)]⟩, ⟨g2, 61, [iv u.kind, flt u.x, flt u.y, flt u.w, flt u.h, flt u.soft, .slice A u.pts.length c, .bool u.out]⟩])
    refine CS.seq ?_
    refine CS.seq ?_
    refine CS.region ?_
    refine RS.q rfl (QO.fieldAddr fo70_1 (by rfl)) ?_
    first | (refine RS.q rfl (QO.load ty24 (by rfl) (by repeat (first | exact List.Mem.head _ | refine List.Mem.tail _ ?_)) (by rfl)) ?_) | (refine RS.q rfl (QO.loadO ty24 (by rfl) (by assumption)) ?_) | (refine RS.q rfl (QO.load ty24 (by rfl) (by repeat (first | exact List.Mem.head _ | refine List.Mem.tail _ ?_)) (by assumption)) ?_)
    refine RS.q rfl (QO.lenS Try.underlying24 (by rfl)) ?_
    refine RS.q rfl (QO.move) ?_
    refine RS.nil ?_
    refine thenC_n ?_
    refine CS.block ?_
    refine CS.loop (X := Nat) (9 :: 33 :: 34 :: 35 :: 36 :: 37 :: 38 :: 39 :: 40 :: 41 :: 42 :: 43 :: 44 :: 45 :: 46 :: 47 :: 48 :: 49 :: 50 :: 51 :: 52 :: 53 :: 54 :: 55 :: 56 :: []) (fun k => [(33, iv (k : Int))]) (fun k => [⟨g8, 70, [iv X, iv Y, iv (a : Int), iv (b : Int), .slice (some ⟨gm, 0, none⟩) (a * b) (a * b)]⟩, ⟨gm, 29, partL (covF u X Y a m n) (a * b) k⟩, ⟨g4, 70, [iv 0, iv 0, iv 0, iv 0, .slice none 0 0]⟩, ⟨g3, 23, [iv X, iv Y, iv (a : Int), iv (b : Int)]⟩, ⟨g2, 61, [iv u.kind, flt u.x, flt u.y, flt u.w, flt u.h, flt u.soft, .slice A u.pts.length c, .bool u.out]⟩]) (fun k => k ≤ a * b) (fun k => a * b - k) 0 (Nat.zero_le _) ?_ ?_ ?_
    · exact (by repeat (first | exact kn_nil | refine kn_cons (by rfl) ?_))
    · exact (by repeat (first | exact List.Sublist.refl _ | exact List.nil_sublist _ | refine List.Sublist.cons_cons _ ?_ | refine List.Sublist.cons _ ?_ | exact Sbp.refl | exact Sbp.nil | refine Sbp.cons (by repeat (first | exact Rem.head | apply Rem.tail)) ?_ | exact Sbp.app | refine Sbp.skip ?_ | exact List.sublist_append_left _ _ | exact List.sublist_append_right _ _))
    · intro k gj9 hz
      refine CS.seq ?_
      refine CS.region ?_
      refine RS.q rfl (QO.lss (by rfl) (by rfl)) ?_
      refine RS.nil ?_
      refine thenC_n ?_
      refine CS.seq ?_
      refine CS.cond (by rfl) (fun hb0 => ?_) (fun hb0 => ?_)
      · have hb0p := of_decide_eq_true hb0
        refine CS.skip ?_
        refine thenC_n ?_
        refine CS.seq ?_
        refine CS.block ?_
        refine CS.seq ?_
        refine CS.region ?_
        refine RS.q rfl (QO.move) ?_
        refine RS.q rfl (QO.assign) ?_
        refine RS.nil ?_
        refine thenC_n ?_
        refine CS.draw 20 rfl (by kernel_rfl) (by kernel_rfl) ?_
        have hkn : k < a * b := by omega
        obtain ⟨qm, hqm⟩ : ∃ q, k % a = q := ⟨_, rfl⟩
        obtain ⟨qd, hqd⟩ : ∃ q, k / a = q := ⟨_, rfl⟩
        have hqmb : qm < a := hqm ▸ Nat.mod_lt _ (by omega)
        have hqdb : qd < b := by rw [← hqd]; exact Nat.div_lt_of_lt_mul hkn
        refine RT.take (i := 0) rfl (by kernel_rfl) rfl (QO.fieldAddr fo70_1 (by rfl)) ?_
        first | (refine RT.take (i := 1) rfl (by kernel_rfl) rfl (QO.load ty24 (by rfl) (by repeat (first | exact List.Mem.head _ | refine List.Mem.tail _ ?_)) (by rfl)) ?_) | (refine RT.take (i := 1) rfl (by kernel_rfl) rfl (QO.loadO ty24 (by rfl) (by assumption)) ?_) | (refine RT.take (i := 1) rfl (by kernel_rfl) rfl (QO.load ty24 (by rfl) (by repeat (first | exact List.Mem.head _ | refine List.Mem.tail _ ?_)) (by assumption)) ?_)
        refine RT.take (i := 2) rfl (by kernel_rfl) rfl (QO.move) ?_
        first | (refine RT.take (i := 3) rfl (by kernel_rfl) rfl (QO.loadB ty61 (by rfl) (by repeat (first | exact List.Mem.head _ | refine List.Mem.tail _ ?_)) (by rfl)) ?_) | (refine RT.take (i := 3) rfl (by kernel_rfl) rfl (QO.loadA ty61 (by rfl) (by repeat (first | exact List.Mem.head _ | refine List.Mem.tail _ ?_)) (by rfl) (by rfl)) ?_) | (refine RT.take (i := 3) rfl (by kernel_rfl) rfl (QO.loadOA ty61 (by rfl) (by assumption) (by rfl)) ?_)
        refine RT.take (i := 4) rfl (by kernel_rfl) rfl (QO.fieldAddr fo23_0 (by rfl)) ?_
        first | (refine RT.take (i := 5) rfl (by kernel_rfl) rfl (QO.load ty3 (by rfl) (by repeat (first | exact List.Mem.head _ | refine List.Mem.tail _ ?_)) (by rfl)) ?_) | (refine RT.take (i := 5) rfl (by kernel_rfl) rfl (QO.loadO ty3 (by rfl) (by assumption)) ?_) | (refine RT.take (i := 5) rfl (by kernel_rfl) rfl (QO.load ty3 (by rfl) (by repeat (first | exact List.Mem.head _ | refine List.Mem.tail _ ?_)) (by assumption)) ?_)
        refine RT.take (i := 6) rfl (by kernel_rfl) rfl (QO.move) ?_
        refine RT.take (i := 7) rfl (by kernel_rfl) rfl (QO.fieldAddr fo23_2 (by rfl)) ?_
        first | (refine RT.take (i := 8) rfl (by kernel_rfl) rfl (QO.load ty3 (by rfl) (by repeat (first | exact List.Mem.head _ | refine List.Mem.tail _ ?_)) (by rfl)) ?_) | (refine RT.take (i := 8) rfl (by kernel_rfl) rfl (QO.loadO ty3 (by rfl) (by assumption)) ?_) | (refine RT.take (i := 8) rfl (by kernel_rfl) rfl (QO.load ty3 (by rfl) (by repeat (first | exact List.Mem.head _ | refine List.Mem.tail _ ?_)) (by assumption)) ?_)
        refine RT.takev (i := 9) rfl (by kernel_rfl) rfl (QO.rem (by rfl) (by rfl) (by omega)) (congrArg iv (show ((k : Nat) : Int).tmod ((a : Nat) : Int) = (qm : Int) from by rw [tm0, hqm])) ?_
        first | (refine RT.take (i := 10) rfl (by kernel_rfl) rfl (QO.add (by rfl) (by rfl) (by omega) (by omega)) ?_) | (refine RT.take (i := 10) rfl (by kernel_rfl) rfl (QO.ibin (by rfl) (by rfl) trivial) ?_)
        refine RT.take (i := 11) rfl (by kernel_rfl) rfl (QO.fieldAddr fo23_1 (by rfl)) ?_
        first | (refine RT.take (i := 12) rfl (by kernel_rfl) rfl (QO.load ty3 (by rfl) (by repeat (first | exact List.Mem.head _ | refine List.Mem.tail _ ?_)) (by rfl)) ?_) | (refine RT.take (i := 12) rfl (by kernel_rfl) rfl (QO.loadO ty3 (by rfl) (by assumption)) ?_) | (refine RT.take (i := 12) rfl (by kernel_rfl) rfl (QO.load ty3 (by rfl) (by repeat (first | exact List.Mem.head _ | refine List.Mem.tail _ ?_)) (by assumption)) ?_)
        refine RT.take (i := 13) rfl (by kernel_rfl) rfl (QO.move) ?_
        refine RT.take (i := 14) rfl (by kernel_rfl) rfl (QO.fieldAddr fo23_2 (by rfl)) ?_
        first | (refine RT.take (i := 15) rfl (by kernel_rfl) rfl (QO.load ty3 (by rfl) (by repeat (first | exact List.Mem.head _ | refine List.Mem.tail _ ?_)) (by rfl)) ?_) | (refine RT.take (i := 15) rfl (by kernel_rfl) rfl (QO.loadO ty3 (by rfl) (by assumption)) ?_) | (refine RT.take (i := 15) rfl (by kernel_rfl) rfl (QO.load ty3 (by rfl) (by repeat (first | exact List.Mem.head _ | refine List.Mem.tail _ ?_)) (by assumption)) ?_)
        refine RT.takev (i := 16) rfl (by kernel_rfl) rfl (QO.quo (by rfl) (by rfl) (by omega) (by omega) (by omega)) (congrArg iv (show ((k : Nat) : Int).tdiv ((a : Nat) : Int) = (qd : Int) from by rw [← hqd]; rfl)) ?_
        first | (refine RT.take (i := 17) rfl (by kernel_rfl) rfl (QO.add (by rfl) (by rfl) (by omega) (by omega)) ?_) | (refine RT.take (i := 17) rfl (by kernel_rfl) rfl (QO.ibin (by rfl) (by rfl) trivial) ?_)
        refine RT.one (i := 18) (by kernel_rfl) rfl rfl ?_
        refine RS.call rfl (by rfl) ok90 (by rfl) (fun w ho => cov_ u A c (X + (qm : Int)) (Y + (qd : Int)) (X + (qm : Int) - m) (Y + (qd : Int) - n) _ (hA.own ho) he (sub_w hwx (by omega)) (sub_w hwy (by omega)) (by omega) (by omega) (by omega) (by omega)) ?_
        rintro _ _ ⟨rfl, rfl⟩
        refine RS.nil ⟨(by repeat (first | exact List.Sublist.refl _ | exact List.nil_sublist _ | refine List.Sublist.cons_cons _ ?_ | refine List.Sublist.cons _ ?_ | exact Sbp.refl | exact Sbp.nil | refine Sbp.cons (by repeat (first | exact Rem.head | apply Rem.tail)) ?_ | exact Sbp.app | refine Sbp.skip ?_ | exact List.sublist_append_left _ _ | exact List.sublist_append_right _ _)), ?_⟩
        first | (refine RT.take (i := 19) rfl (by kernel_rfl) rfl (QO.idx0 Try.underlying24 ty29 (by rfl) (by rfl) (by rfl) (by omega)) ?_) | (refine RT.take (i := 19) rfl (by kernel_rfl) rfl (QO.idxn Try.underlying24 ty29 (by rfl) (by rfl) (by rfl) (by omega)) ?_) | (refine RT.take (i := 19) rfl (by kernel_rfl) rfl (QO.idx1 Try.underlying24 ty29 (by rfl) (by rfl) (by omega) (by omega)) ?_)
        refine RT.tail (i := 20) (by kernel_rfl) rfl rfl ?_
        refine RS.store1e ty29 rfl (by rfl) (by rfl) (by rfl) (partL_set (covF u X Y a m n) (a * b) k _ (by show _ = covV u _ _ _ _; rw [hqm, hqd]) hkn) (by repeat (first | exact Upd.head | apply Upd.tail)) (by rw [partL_len]; exact hkn) ?_
        refine RS.nil ?_
        refine RT.done (by kernel_rfl) ?_
        refine blockC_n ?_
        refine thenC_n ?_
        refine CS.region ?_
        first | (refine RS.q rfl (QO.add (by rfl) (by rfl) (by omega) (by omega)) ?_) | (refine RS.q rfl (QO.ibin (by rfl) (by rfl) trivial) ?_)
        refine RS.q rfl (QO.move) ?_
        refine RS.nil ?_
        refine loopQ_n (by intro t ht; repeat (first | with_reducible exact rfl | exact frame_puts ht (frame_mix ht) _ rfl | (refine frame_put rfl ht ?_) | (refine frame_puts ht ?_ _ rfl) | exact frame_mix ht | (refine frame_mix2 rfl ht ?_) | exact rfl)) ?_
        exact ⟨k + 1, by omega, by omega, (by repeat (first | exact kn_nil | refine kn_cons (by rfl) ?_)), (by repeat (first | exact List.Sublist.refl _ | exact List.nil_sublist _ | refine List.Sublist.cons_cons _ ?_ | refine List.Sublist.cons _ ?_ | exact Sbp.refl | exact Sbp.nil | refine Sbp.cons (by repeat (first | exact Rem.head | apply Rem.tail)) ?_ | exact Sbp.app | refine Sbp.skip ?_ | exact List.sublist_append_left _ _ | exact List.sublist_append_right _ _))⟩
      · have hb0p := of_decide_eq_false hb0
        refine CS.exit ?_
        refine thenC_x ?_
        refine loopQ_x ?_
        refine blockC_x ?_
        refine thenC_n ?_
        refine CS.seq ?_
        refine CS.region ?_
        first | (refine RS.q rfl (QO.loadB ty70 (by rfl) (by repeat (first | exact List.Mem.head _ | refine List.Mem.tail _ ?_)) (by rfl)) ?_) | (refine RS.q rfl (QO.loadA ty70 (by rfl) (by repeat (first | exact List.Mem.head _ | refine List.Mem.tail _ ?_)) (by rfl) (by rfl)) ?_) | (refine RS.q rfl (QO.loadOA ty70 (by rfl) (by assumption) (by rfl)) ?_)
        first | refine RS.storeB ty70 (by rfl) (by rfl) (by rfl) (by rfl) (by rfl) (by repeat (first | exact Upd.head | apply Upd.tail)) (by rfl) ?_ | refine RS.storeP ty70 (by rfl) (by rfl) (by rfl) (by rfl) (by rfl) (by repeat (first | exact Upd.head | apply Upd.tail)) (by rfl) ?_
        refine RS.q rfl (QO.assign) ?_
        refine RS.nil ?_
        refine thenC_n ?_
        refine CS.ret ?_
        refine retQ.mk (H' := [⟨gm, 29, ((List.range (a * b)).map (covF u X Y a m n)).map flt⟩]) (.inr rfl) (RVs.cellA ty70 (by rfl) (by repeat (first | exact List.Mem.head _ | refine List.Mem.tail _ ?_)) (by rfl) (RVs.tmp (by rfl) RVs.nil)) (by obtain rfl : k = a * b := (by omega); rw [partL_full]; exact (by repeat (first | exact List.Sublist.refl _ | exact List.nil_sublist _ | refine List.Sublist.cons_cons _ ?_ | refine List.Sublist.cons _ ?_ | exact Sbp.refl | exact Sbp.nil | refine Sbp.cons (by repeat (first | exact Rem.head | apply Rem.tail)) ?_ | exact Sbp.app | refine Sbp.skip ?_ | exact List.sublist_append_left _ _ | exact List.sublist_append_right _ _))) ?_
        exact ⟨gm, rfl, rfl⟩

end Go.Proofs.Ytapcgokcfmklbaa

namespace Go.Proofs.Ytapcgokcfmklbaa
open Go Go.RowKit

theorem mov_zero {u : Win} {dx dy : Int} (h : movE u dx dy = 0) : winE u = 0 ∧ movR u dx dy = movW u dx dy ∧ winE (movW u dx dy) = 0 := by
  have hr : movR u dx dy = movW u dx dy := if_pos h
  unfold movE at h
  split at h
  · rename_i h1; exact absurd h h1
  · rename_i h1
    split at h
    · omega
    · exact ⟨by simpa using h1, hr, h⟩
/-- where a moved window's corner is -/
def mvC (u : Win) (m d : Int) : Int := if u.kind ≠ 3 then m + d else m
theorem whl_movx {u : Win} {dx dy m : Int} (h : whl u.x m) (hm : m.natAbs ≤ 2000000) (hd : dx.natAbs ≤ 2000000) : whl (movW u dx dy).x (mvC u m dx) := by
  unfold movW mvC
  by_cases hk : u.kind ≠ 3
  · simp only [if_pos hk]
    have e : addV u.x dx = cvF (m + dx) := by unfold addV; rw [add_w h (by omega)]; rfl
    rw [e]; exact (cv_val (by omega)).1
  · simp only [if_neg hk]; exact h
theorem whl_movy {u : Win} {dx dy n : Int} (h : whl u.y n) (hm : n.natAbs ≤ 2000000) (hd : dy.natAbs ≤ 2000000) : whl (movW u dx dy).y (mvC u n dy) := by
  unfold movW mvC
  by_cases hk : u.kind ≠ 3
  · simp only [if_pos hk]
    have e : addV u.y dy = cvF (n + dy) := by unfold addV; rw [add_w h (by omega)]; rfl
    rw [e]; exact (cv_val (by omega)).1
  · simp only [if_neg hk]; exact h
theorem covV_mov {u : Win} {dx dy p q p' q' x y : Int} (hk : u.kind ≠ 3 → p' = p ∧ q' = q) (h3 : u.kind = 1 ∨ u.kind = 2 ∨ u.kind = 3) : covV (movW u dx dy) p' q' (x + dx) (y + dy) = covV u p q x y := by
  unfold covV
  have e1 : (movW u dx dy).kind = u.kind := rfl
  have e2 : (movW u dx dy).out = u.out := rfl
  rw [e1, e2]
  rcases h3 with h | h | h
  · obtain ⟨rfl, rfl⟩ := hk (by omega)
    rw [if_pos h, if_pos h]; rfl
  · obtain ⟨rfl, rfl⟩ := hk (by omega)
    have n1 : ¬ u.kind = 1 := by omega
    rw [if_neg n1, if_neg n1, if_pos h, if_pos h]; rfl
  · have n1 : ¬ u.kind = 1 := by omega
    have n2 : ¬ u.kind = 2 := by omega
    rw [if_neg n1, if_neg n1, if_neg n2, if_neg n2]
    congr 1
    unfold polyV
    have e3 : (movW u dx dy).pts = movPs u.pts dx dy u.pts.length := rfl
    rw [e3, movPs_len, crN_mov _ _ _ _ _ _ (Nat.le_refl _)]
theorem covF_mov {u : Win} {dx dy X Y m n : Int} {a i : Nat} (h3 : u.kind = 1 ∨ u.kind = 2 ∨ u.kind = 3) : covF (movW u dx dy) (X + dx) (Y + dy) a (mvC u m dx) (mvC u n dy) i = covF u X Y a m n i := by
  unfold covF
  have e1 : X + dx + ((i % a : Nat) : Int) = X + ((i % a : Nat) : Int) + dx := by omega
  have e2 : Y + dy + ((i / a : Nat) : Int) = Y + ((i / a : Nat) : Int) + dy := by omega
  rw [e1, e2]
  refine covV_mov (fun hk => ?_) h3
  unfold mvC
  rw [if_pos hk, if_pos hk]
  constructor <;> omega
theorem reg5 {X Y : Int} {a b : Nat} (ha : 1 ≤ a ∧ a ≤ 16) (hb : 1 ≤ b ∧ b ≤ 16) (h : regErr X Y (a : Int) (b : Int) ≠ 0) : regErr X Y (a : Int) (b : Int) = 5 := by
  have hup := Nat.mul_le_mul ha.2 hb.2
  have hcast : ((a * b : Nat) : Int) = (a : Int) * (b : Int) := Int.natCast_mul ..
  unfold regErr at h ⊢
  rw [if_neg (by omega)] at h ⊢
  rw [if_neg (by omega)] at h ⊢
  split at h
  · rename_i h1; rw [if_pos h1]
  · exact absurd rfl h
theorem w2 {a b : Nat} {k : Nat} (h : k < 2) : ([flt a, flt b] : List Value)[k]? = some (flt (f2 a b k)) := by
  match k, h with
  | 0, _ => rfl
  | 1, _ => rfl
theorem listAt {f : Nat → Nat} {N k : Nat} (h : k < N) : (((List.range N).map f).map flt)[k]? = some (flt (f k)) := by
  rw [List.getElem?_map, List.getElem?_map, List.getElem?_range h]; rfl
theorem tmod_bd1 {d e : Int} (h : d.tmod 1000 = e) : e.natAbs ≤ 999 := by
  rw [← h, Int.natAbs_tmod]
  have := Nat.mod_lt d.natAbs (show 0 < (1000 : Int).natAbs by decide)
  have e1 : (1000 : Int).natAbs = 1000 := rfl
  rw [e1] at this ⊢
  omega
theorem covF_num {u : Win} {X Y m n : Int} {a i : Nat} (h : winE u = 0) : fcmpB .neq (covF u X Y a m n i) (covF u X Y a m n i) = false := by
  rw [fneq_self]; exact covV_num (winE_num h).2.2
end Go.Proofs.Ytapcgokcfmklbaa
