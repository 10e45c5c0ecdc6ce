/-
  Contracts: frames mixed. Conditions: as each theorem says.
-/
import Derived.Test.YtplfeaikjgfhcaaC6
namespace Go.Proofs.Ytplfeaikjgfhcaa
open Go Go.Proofs Go.RowKit

theorem ty30 : tyChk Try.prog 30 = some ([.int .i64 0], false, 8) := by kernel_rfl
theorem ty64 : tyChk Try.prog 64 = some ([.int .i64 0, .int .i64 0, .int .i64 0, .int .i64 0, .slice none 0 0], true, 56) := by kernel_rfl
theorem fo64_0 : fldOff Try.prog 64 0 = some (0, 23) := by kernel_rfl
theorem fo64_1 : fldOff Try.prog 64 1 = some (4, 24) := by kernel_rfl
theorem pl64 : places Try.prog 64 = some #[(0, 4), (4, 1)] := by kernel_rfl
theorem ok128 : callOK Try.prog 128 = true := by kernel_rfl
theorem ok130 : callOK Try.prog 130 = true := by kernel_rfl
theorem ok131 : callOK Try.prog 131 = true := by kernel_rfl
theorem ok135 : callOK Try.prog 135 = true := by kernel_rfl
theorem ok137 : callOK Try.prog 137 = true := by kernel_rfl
theorem ok138 : callOK Try.prog 138 = true := by kernel_rfl
theorem ok140 : callOK Try.prog 140 = true := by kernel_rfl

/-- what a mix of two numbers gives -/
def lerpV (a b t : Nat) : Nat := if fcmpB .eql t 0 then cl a else if fcmpB .eql t 1065353216 then cl b else fo .add a (fo .mul (fo .sub b a) t)
theorem lerpV_0 {a b t : Nat} (h : fcmpB .eql t 0 = true) : cl a = lerpV a b t := by unfold lerpV; rw [if_pos h]
theorem lerpV_1 {a b t : Nat} (h : fcmpB .eql t 0 = false) (h1 : fcmpB .eql t 1065353216 = true) : cl b = lerpV a b t := by unfold lerpV; rw [if_neg (by rw [h]; decide), if_pos h1]
theorem lerpV_2 {a b t r s q : Nat} (h : fcmpB .eql t 0 = false) (h1 : fcmpB .eql t 1065353216 = false) (hr : FR (fop .sub b a) r) (hs : FR (fop .mul r t) s) (hq : FR (fop .add a s) q) : cl q = lerpV a b t := by
  unfold lerpV
  rw [if_neg (by rw [h]; decide), if_neg (by rw [h1]; decide)]
  have h2 := hs.cl' (hr.cl.trans (cl_fo _ _ _).symm) rfl
  exact hq.cl' rfl (h2.trans (cl_fo _ _ _).symm)
theorem cl_lerpV (a b t : Nat) : cl (lerpV a b t) = lerpV a b t := by
  unfold lerpV
  split
  · exact cl_cl _
  · split
    · exact cl_cl _
    · exact cl_fo _ _ _

set_option maxRecDepth 100000 in
theorem lerp (a b t : Nat) (W : World) : Fn_ Try.prog 137 #[flt a, flt b, flt t] W (fun v H => v = flt (lerpV a b t) ∧ H = []) := by
  refine Fn_.intro Try.func137 rfl rfl (by rfl) ?_
  refine CS.seq ?_
  refine CS.region ?_
  refine RS.q rfl (QO.assign) ?_
  refine RS.nil ?_
  refine thenC_n ?_
  refine CS.seq ?_
  refine CS.seq ?_
  refine CS.region ?_
  refine RS.q rfl (QO.move) ?_
  refine RS.nil ?_
  refine thenC_n ?_
  refine CS.block ?_
  refine CS.seq ?_
  refine CS.region ?_
  refine RS.q rfl (QO.fcmp32 (by rfl) (by rfl) (by simp)) ?_
  refine RS.q rfl (QO.assign) ?_
  refine RS.nil ?_
  refine thenC_n ?_
  refine CS.cond (by rfl) (fun hb0 => ?_) (fun hb0 => ?_)
  · refine CS.seq ?_
    refine CS.region ?_
    refine RS.q rfl (QO.move) ?_
    refine RS.call rfl (by rfl) ok117 (by rfl) (fun w ho => clean _ _) ?_
    rintro _ _ ⟨rfl, rfl⟩
    refine RS.q rfl (QO.assign) ?_
    refine RS.nil ?_
    refine thenC_n ?_
    refine CS.ret ?_
    refine blockC_r ?_
    refine thenC_r ?_
    refine retQ.mk (H' := []) (.inr rfl) (RVs.tmp (by rfl) RVs.nil) (List.nil_sublist _) ?_
    exact ⟨congrArg flt (lerpV_0 (by assumption)), rfl⟩
  · refine CS.seq ?_
    refine CS.region ?_
    refine RS.q rfl (QO.fcmp32 (by rfl) (by rfl) (by simp)) ?_
    refine RS.q rfl (QO.assign) ?_
    refine RS.nil ?_
    refine thenC_n ?_
    refine CS.cond (by rfl) (fun hb1 => ?_) (fun hb1 => ?_)
    · refine CS.seq ?_
      refine CS.region ?_
      refine RS.q rfl (QO.move) ?_
      refine RS.call rfl (by rfl) ok117 (by rfl) (fun w ho => clean _ _) ?_
      rintro _ _ ⟨rfl, rfl⟩
      refine RS.q rfl (QO.assign) ?_
      refine RS.nil ?_
      refine thenC_n ?_
      refine CS.ret ?_
      refine blockC_r ?_
      refine thenC_r ?_
      refine retQ.mk (H' := []) (.inr rfl) (RVs.tmp (by rfl) RVs.nil) (List.nil_sublist _) ?_
      exact ⟨congrArg flt (lerpV_1 (by assumption) (by assumption)), rfl⟩
    · refine CS.skip ?_
      refine blockC_n ?_
      refine thenC_n ?_
      refine CS.seq ?_
      refine CS.region ?_
      refine RS.q rfl (QO.move) ?_
      refine RS.q rfl (QO.move) ?_
      refine RS.q rfl (QO.move) ?_
      refine RS.farith rfl (by rfl) (by rfl) (by simp) ?_
      intro r19 hr19
      refine RS.q rfl (QO.move) ?_
      refine RS.farith rfl (by rfl) (by rfl) (by simp) ?_
      intro r21 hr21
      refine RS.farith rfl (by rfl) (by rfl) (by simp) ?_
      intro r22 hr22
      refine RS.call rfl (by rfl) ok117 (by rfl) (fun w ho => clean _ _) ?_
      rintro _ _ ⟨rfl, rfl⟩
      refine RS.q rfl (QO.assign) ?_
      refine RS.nil ?_
      refine thenC_n ?_
      refine CS.ret ?_
      refine retQ.mk (H' := []) (.inr rfl) (RVs.tmp (by rfl) RVs.nil) (List.nil_sublist _) ?_
      exact ⟨congrArg flt (lerpV_2 (by assumption) (by assumption) hr19 hr21 hr22), rfl⟩

set_option maxRecDepth 100000 in
theorem lerpOf (a b t : Nat) (W : World) : Fn_ Try.prog 140 #[flt a, flt b, flt t] W (fun v H => v = flt (lerpV a b t) ∧ H = []) := by
  refine Fn_.intro Try.func140 rfl rfl (by rfl) ?_
  refine CS.seq ?_
  refine CS.region ?_
  refine RS.q rfl (QO.assign) ?_
  refine RS.nil ?_
  refine thenC_n ?_
  refine CS.seq ?_
  refine CS.seq ?_
  refine CS.region ?_
  refine RS.q rfl (QO.move) ?_
  refine RS.nil ?_
  refine thenC_n ?_
  refine CS.block ?_
  refine CS.seq ?_
  refine CS.region ?_
  refine RS.q rfl (QO.fcmp32 (by rfl) (by rfl) (by simp)) ?_
  refine RS.q rfl (QO.assign) ?_
  refine RS.nil ?_
  refine thenC_n ?_
  refine CS.cond (by rfl) (fun hb0 => ?_) (fun hb0 => ?_)
  · refine CS.seq ?_
    refine CS.region ?_
    refine RS.q rfl (QO.move) ?_
    refine RS.call rfl (by rfl) ok100 (by rfl) (fun w ho => fix _ _) ?_
    rintro _ _ ⟨rfl, rfl⟩
    refine RS.q rfl (QO.assign) ?_
    refine RS.nil ?_
    refine thenC_n ?_
    refine CS.ret ?_
    refine blockC_r ?_
    refine thenC_r ?_
    refine retQ.mk (H' := []) (.inr rfl) (RVs.tmp (by rfl) RVs.nil) (List.nil_sublist _) ?_
    exact ⟨congrArg flt (lerpV_0 (by assumption)), rfl⟩
  · refine CS.seq ?_
    refine CS.region ?_
    refine RS.q rfl (QO.fcmp32 (by rfl) (by rfl) (by simp)) ?_
    refine RS.q rfl (QO.assign) ?_
    refine RS.nil ?_
    refine thenC_n ?_
    refine CS.cond (by rfl) (fun hb1 => ?_) (fun hb1 => ?_)
    · refine CS.seq ?_
      refine CS.region ?_
      refine RS.q rfl (QO.move) ?_
      refine RS.call rfl (by rfl) ok100 (by rfl) (fun w ho => fix _ _) ?_
      rintro _ _ ⟨rfl, rfl⟩
      refine RS.q rfl (QO.assign) ?_
      refine RS.nil ?_
      refine thenC_n ?_
      refine CS.ret ?_
      refine blockC_r ?_
      refine thenC_r ?_
      refine retQ.mk (H' := []) (.inr rfl) (RVs.tmp (by rfl) RVs.nil) (List.nil_sublist _) ?_
      exact ⟨congrArg flt (lerpV_1 (by assumption) (by assumption)), rfl⟩
    · refine CS.skip ?_
      refine blockC_n ?_
      refine thenC_n ?_
      refine CS.seq ?_
      refine CS.region ?_
      refine RS.q rfl (QO.move) ?_
      refine RS.q rfl (QO.move) ?_
      refine RS.q rfl (QO.move) ?_
      refine RS.farith rfl (by rfl) (by rfl) (by simp) ?_
      intro r19 hr19
      refine RS.q rfl (QO.move) ?_
      refine RS.farith rfl (by rfl) (by rfl) (by simp) ?_
      intro r21 hr21
      refine RS.farith rfl (by rfl) (by rfl) (by simp) ?_
      intro r22 hr22
      refine RS.call rfl (by rfl) ok100 (by rfl) (fun w ho => fix _ _) ?_
      rintro _ _ ⟨rfl, rfl⟩
      refine RS.q rfl (QO.assign) ?_
      refine RS.nil ?_
      refine thenC_n ?_
      refine CS.ret ?_
      refine retQ.mk (H' := []) (.inr rfl) (RVs.tmp (by rfl) RVs.nil) (List.nil_sublist _) ?_
      exact ⟨congrArg flt (lerpV_2 (by assumption) (by assumption) hr19 hr21 hr22), rfl⟩

def f2 {α : Type} (a b : α) (k : Nat) : α := if k = 0 then a else b
theorem two_at2 (X Y X2 Y2 : Int) (a b a2 b2 : Int) (A A2 : Option Addr) (n n2 c c2 k j : Nat) (v : Value) (h : k < 2) (hj : [iv (f2 X X2 k), iv (f2 Y Y2 k), iv (f2 a a2 k), iv (f2 b b2 k), Value.slice (f2 A A2 k) (f2 n n2 k) (f2 c c2 k)][j]? = some v) :
    [iv X, iv Y, iv a, iv b, Value.slice A n c, iv X2, iv Y2, iv a2, iv b2, Value.slice A2 n2 c2][k * 5 + j]? = some v := by
  match k, h with
  | 0, _ =>
    rw [show 0 * 5 + j = j by omega]
    have h1 : j < 5 := (List.getElem?_eq_some_iff.1 hj).1
    match j, h1 with
    | 0, _ => exact hj
    | 1, _ => exact hj
    | 2, _ => exact hj
    | 3, _ => exact hj
    | 4, _ => exact hj
  | 1, _ =>
    have h1 : j < 5 := (List.getElem?_eq_some_iff.1 hj).1
    match j, h1 with
    | 0, _ => exact hj
    | 1, _ => exact hj
    | 2, _ => exact hj
    | 3, _ => exact hj
    | 4, _ => exact hj

theorem addr_add0 (g k : Nat) : (⟨g, 0, none⟩ : Addr).add k = ⟨g, k, none⟩ := by rw [addr_add, Nat.zero_add]

set_option maxRecDepth 100000 in
theorem checkAll (X Y X2 Y2 a b a2 b2 : Int) (A A2 : Option Addr) (n n2 c c2 g : Nat) (W : World) (hcell : ∀ j v, [iv X, iv Y, iv a, iv b, Value.slice A n c, iv X2, iv Y2, iv a2, iv b2, Value.slice A2 n2 c2][j]? = some v → W.cell? ((⟨g, 0, none⟩ : Addr).add j) = some v) (h1 : frErr X Y a b n = 0) (h2 : frErr X2 Y2 a2 b2 n2 = 0) : Fn_ Try.prog 135 #[.slice (some ⟨g, 0, none⟩) 2 2] W (fun v H => v = iv 0 ∧ H = []) := by
  refine Fn_.intro Try.func135 rfl rfl (by rfl) ?_
  refine CS.seq ?_
  refine CS.region ?_
  refine RS.q rfl (QO.assign) ?_
  refine RS.nil ?_
  refine thenC_n ?_
  refine CS.seq ?_
  refine CS.seq ?_
  refine CS.region ?_
  refine RS.q rfl (QO.move) ?_
  refine RS.q rfl (QO.lenS Try.underlying127 (by rfl)) ?_
  refine RS.q rfl (QO.move) ?_
  refine RS.nil ?_
  refine thenC_n ?_
  refine CS.block ?_
  refine CS.loop (X := Nat) (2 :: 4 :: 5 :: 8 :: 9 :: 10 :: 11 :: 12 :: 13 :: 14 :: 15 :: 16 :: 17 :: []) (fun k => [(8, iv (k : Int))]) (fun k => []) (fun k => k ≤ 2) (fun k => 2 - k) 0 (by omega) ?_ ?_ ?_
  · exact (by repeat (first | exact kn_nil | refine kn_cons (by rfl) ?_))
  · exact (by repeat (first | exact List.Sublist.refl _ | exact List.nil_sublist _ | refine List.Sublist.cons_cons _ ?_ | refine List.Sublist.cons _ ?_ | exact Sbp.refl | exact Sbp.nil | refine Sbp.cons (by repeat (first | exact Rem.head | apply Rem.tail)) ?_ | exact Sbp.app | refine Sbp.skip ?_))
  · intro k gj2 hz
    refine CS.seq ?_
    refine CS.region ?_
    refine RS.q rfl (QO.lss (by rfl) (by rfl)) ?_
    refine RS.nil ?_
    refine thenC_n ?_
    refine CS.seq ?_
    refine CS.cond (by rfl) (fun hb0 => ?_) (fun hb0 => ?_)
    · have hb0p := of_decide_eq_true hb0
      refine CS.skip ?_
      refine thenC_n ?_
      refine CS.seq ?_
      refine CS.block ?_
      refine CS.seq ?_
      refine CS.region ?_
      refine RS.q rfl (QO.idx Try.underlying127 ty26 (by rfl) (by rfl) (by omega) (by omega)) ?_
      refine RS.q rfl (QO.loadOA ty26 (vs := [iv (f2 X X2 k), iv (f2 Y Y2 k), iv (f2 a a2 k), iv (f2 b b2 k), Value.slice (f2 A A2 k) (f2 n n2 k) (f2 c c2 k)]) (by rfl) (fun j v hj => by rw [addr_add, Nat.zero_add, Int.toNat_natCast, ← addr_add0]; exact hcell _ _ (two_at2 X Y X2 Y2 a b a2 b2 A A2 n n2 c c2 k j v (by omega) hj)) (by rfl)) ?_
      refine RS.alloc rfl ty26 ?_
      intro g4
      first | refine RS.storeB ty26 (by rfl) (by rfl) (by rfl) (by rfl) (by rfl) (by repeat (first | exact Upd.head | apply Upd.tail)) (by rfl) ?_ | refine RS.storeP ty26 (by rfl) (by rfl) (by rfl) (by rfl) (by rfl) (by repeat (first | exact Upd.head | apply Upd.tail)) (by rfl) ?_
      refine RS.nil ?_
      refine thenC_n ?_
      refine CS.seq ?_
      refine CS.region ?_
      first | (refine RS.q rfl (QO.loadB ty26 (by rfl) (by repeat (first | exact List.Mem.head _ | refine List.Mem.tail _ ?_)) (by rfl)) ?_) | (refine RS.q rfl (QO.loadA ty26 (by rfl) (by repeat (first | exact List.Mem.head _ | refine List.Mem.tail _ ?_)) (by rfl) (by rfl)) ?_) | (refine RS.q rfl (QO.loadOA ty26 (by rfl) (by assumption) (by rfl)) ?_)
      refine RS.call rfl (by rfl) ok116 (by rfl) (fun w ho => check _ _ _ _ _ _ _ _) ?_
      rintro _ _ ⟨rfl, rfl⟩
      refine RS.q rfl (QO.assign) ?_
      refine RS.nil ?_
      refine thenC_n ?_
      refine CS.seq ?_
      refine CS.region ?_
      refine RS.q rfl (QO.move) ?_
      refine RS.qv rfl (QO.neq (by rfl) (by rfl)) (congrArg Value.bool (show ((frErr (f2 X X2 k) (f2 Y Y2 k) (f2 a a2 k) (f2 b b2 k) (f2 n n2 k)) != 0) = false from by unfold f2; split <;> simp [h1, h2])) ?_
      refine RS.nil ?_
      refine thenC_n ?_
      refine CS.condF (by rfl) rfl ?_
      refine CS.skip ?_
      refine blockC_n ?_
      refine thenC_n ?_
      refine CS.region ?_
      first | (refine RS.q rfl (QO.add (by rfl) (by rfl) (by omega) (by omega)) ?_) | (refine RS.q rfl (QO.ibin (by rfl) (by rfl) trivial) ?_)
      refine RS.q rfl (QO.move) ?_
      refine RS.nil ?_
      refine loopQ_n (by intro t ht; repeat (first | with_reducible exact rfl | exact frame_puts ht (frame_mix ht) _ rfl | (refine frame_put rfl ht ?_) | (refine frame_puts ht ?_ _ rfl) | exact frame_mix ht | (refine frame_mix2 rfl ht ?_) | exact rfl)) ?_
      exact ⟨k + 1, by omega, by omega, (by repeat (first | exact kn_nil | refine kn_cons (by rfl) ?_)), (by repeat (first | exact List.Sublist.refl _ | exact List.nil_sublist _ | refine List.Sublist.cons_cons _ ?_ | refine List.Sublist.cons _ ?_ | exact Sbp.refl | exact Sbp.nil | refine Sbp.cons (by repeat (first | exact Rem.head | apply Rem.tail)) ?_ | exact Sbp.app | refine Sbp.skip ?_))⟩
    · have hb0p := of_decide_eq_false hb0
      refine CS.exit ?_
      refine thenC_x ?_
      refine loopQ_x ?_
      refine blockC_x ?_
      refine thenC_n ?_
      refine CS.seq ?_
      refine CS.region ?_
      refine RS.q rfl (QO.assign) ?_
      refine RS.nil ?_
      refine thenC_n ?_
      refine CS.ret ?_
      refine retQ.mk (H' := []) (.inr rfl) (RVs.tmp (by rfl) RVs.nil) (List.nil_sublist _) ?_
      exact ⟨rfl, rfl⟩

/-- what is wrong with a matte -/
def mErr (x y w h : Int) (n : Nat) : Int := if regErr x y w h ≠ 0 then regErr x y w h else if (n : Int) ≠ w * h then 2 else 0
theorem mErr_reg {x y w h : Int} {n : Nat} (e : regErr x y w h ≠ 0) : regErr x y w h = mErr x y w h n := by unfold mErr; rw [if_pos e]
theorem mErr_len {x y w h : Int} {n : Nat} (e : regErr x y w h = 0) (e2 : (n : Int) ≠ w * h) : 2 = mErr x y w h n := by unfold mErr; rw [if_neg (by simpa using e), if_pos e2]
theorem mErr_ok {x y w h : Int} {n : Nat} (e : regErr x y w h = 0) (e2 : (n : Int) = w * h) : 0 = mErr x y w h n := by unfold mErr; rw [if_neg (by simpa using e), if_neg (by simpa using e2)]
theorem mErr_zero {x y w h : Int} {n : Nat} (e : mErr x y w h n = 0) : regErr x y w h = 0 ∧ (n : Int) = w * h := by
  unfold mErr at e
  split at e
  · contradiction
  · rename_i h1
    split at e
    · cases e
    · rename_i h2
      exact ⟨Decidable.not_not.1 h1, Decidable.not_not.1 h2⟩

set_option maxRecDepth 100000 in
theorem checkMatte (x y wi he : Int) (A : Option Addr) (m c : Nat) (W : World) : Fn_ Try.prog 130 #[.agg #[iv x, iv y, iv wi, iv he, .slice A m c]] W (fun v H => v = iv (mErr x y wi he m) ∧ H = []) := by
  refine Fn_.intro Try.func130 rfl rfl (by rfl) ?_
  refine CS.seq ?_
  refine CS.region ?_
  refine RS.box rfl (by rfl) (by rfl) ?_
  intro g1
  refine RS.q rfl (QO.assign) ?_
  refine RS.nil ?_
  refine thenC_n ?_
  refine CS.seq ?_
  refine CS.seq ?_
  refine CS.region ?_
  refine RS.q rfl (QO.fieldAddr fo64_0 (by rfl)) ?_
  first | (refine RS.q rfl (QO.loadB ty23 (by rfl) (by repeat (first | exact List.Mem.head _ | refine List.Mem.tail _ ?_)) (by rfl)) ?_) | (refine RS.q rfl (QO.loadA ty23 (by rfl) (by repeat (first | exact List.Mem.head _ | refine List.Mem.tail _ ?_)) (by rfl) (by rfl)) ?_) | (refine RS.q rfl (QO.loadOA ty23 (by rfl) (by assumption) (by rfl)) ?_)
  refine RS.call rfl (by rfl) ok36 (by rfl) (fun w ho => checkRegion _ _ _ _ _) ?_
  rintro _ _ ⟨rfl, rfl⟩
  refine RS.q rfl (QO.assign) ?_
  refine RS.nil ?_
  refine thenC_n ?_
  refine CS.seq ?_
  refine CS.region ?_
  refine RS.q rfl (QO.move) ?_
  refine RS.q rfl (QO.neq (by rfl) (by rfl)) ?_
  refine RS.nil ?_
  refine thenC_n ?_
  refine CS.cond (by rfl) (fun hb0 => ?_) (fun hb0 => ?_)
  · have hb0p := bne_iff_ne.1 hb0
    refine CS.seq ?_
    refine CS.region ?_
    refine RS.q rfl (QO.move) ?_
    refine RS.q rfl (QO.assign) ?_
    refine RS.nil ?_
    refine thenC_n ?_
    refine CS.ret ?_
    refine thenC_r ?_
    refine retQ.mk (H' := []) (.inr rfl) (RVs.tmp (by rfl) RVs.nil) (List.nil_sublist _) ?_
    exact ⟨congrArg iv (mErr_reg hb0p), rfl⟩
  · have hb0p := of_bne_false hb0
    refine CS.skip ?_
    refine thenC_n ?_
    refine CS.seq ?_
    refine CS.seq ?_
    refine CS.region ?_
    have hro := regErr_ok (of_bne_false hb0)
    refine RS.q rfl (QO.fieldAddr fo64_1 (by rfl)) ?_
    first | (refine RS.q rfl (QO.load ty24 (by rfl) (by repeat (first | exact List.Mem.head _ | refine List.Mem.tail _ ?_)) (by rfl)) ?_) | (refine RS.q rfl (QO.loadO ty24 (by rfl) (by assumption)) ?_) | (refine RS.q rfl (QO.load ty24 (by rfl) (by repeat (first | exact List.Mem.head _ | refine List.Mem.tail _ ?_)) (by assumption)) ?_)
    refine RS.q rfl (QO.lenS Try.underlying24 (by rfl)) ?_
    refine RS.q rfl (QO.fieldAddr fo64_0 (by rfl)) ?_
    refine RS.q rfl (QO.fieldAddr fo23_2 (by rfl)) ?_
    first | (refine RS.q rfl (QO.load ty3 (by rfl) (by repeat (first | exact List.Mem.head _ | refine List.Mem.tail _ ?_)) (by rfl)) ?_) | (refine RS.q rfl (QO.loadO ty3 (by rfl) (by assumption)) ?_) | (refine RS.q rfl (QO.load ty3 (by rfl) (by repeat (first | exact List.Mem.head _ | refine List.Mem.tail _ ?_)) (by assumption)) ?_)
    refine RS.q rfl (QO.fieldAddr fo64_0 (by rfl)) ?_
    refine RS.q rfl (QO.fieldAddr fo23_3 (by rfl)) ?_
    first | (refine RS.q rfl (QO.load ty3 (by rfl) (by repeat (first | exact List.Mem.head _ | refine List.Mem.tail _ ?_)) (by rfl)) ?_) | (refine RS.q rfl (QO.loadO ty3 (by rfl) (by assumption)) ?_) | (refine RS.q rfl (QO.load ty3 (by rfl) (by repeat (first | exact List.Mem.head _ | refine List.Mem.tail _ ?_)) (by assumption)) ?_)
    first | (refine RS.q rfl (QO.mul (by rfl) (by rfl) (by omega) (by omega)) ?_) | (refine RS.q rfl (QO.ibin (by rfl) (by rfl) trivial) ?_)
    refine RS.q rfl (QO.neq (by rfl) (by rfl)) ?_
    refine RS.nil ?_
    refine thenC_n ?_
    refine CS.cond (by rfl) (fun hb1 => ?_) (fun hb1 => ?_)
    · have hb1p := bne_iff_ne.1 hb1
      refine CS.seq ?_
      refine CS.region ?_
      refine RS.q rfl (QO.assign) ?_
      refine RS.nil ?_
      refine thenC_n ?_
      refine CS.ret ?_
      refine thenC_r ?_
      refine retQ.mk (H' := []) (.inr rfl) (RVs.tmp (by rfl) RVs.nil) (List.nil_sublist _) ?_
      exact ⟨congrArg iv (mErr_len (of_bne_false hb0) hb1p), rfl⟩
    · have hb1p := of_bne_false hb1
      refine CS.skip ?_
      refine thenC_n ?_
      refine CS.seq ?_
      refine CS.region ?_
      refine RS.q rfl (QO.assign) ?_
      refine RS.nil ?_
      refine thenC_n ?_
      refine CS.ret ?_
      refine retQ.mk (H' := []) (.inr rfl) (RVs.tmp (by rfl) RVs.nil) (List.nil_sublist _) ?_
      exact ⟨congrArg iv (mErr_ok (of_bne_false hb0) (of_bne_false hb1)), rfl⟩

set_option maxRecDepth 100000 in
theorem when (is : Bool) (e : Int) (W : World) : Fn_ Try.prog 128 #[.bool is, iv e] W (fun v H => v = iv (if is then e else 0) ∧ H = []) := by
  refine Fn_.intro Try.func128 rfl rfl (by rfl) ?_
  refine CS.seq ?_
  refine CS.region ?_
  refine RS.q rfl (QO.assign) ?_
  refine RS.nil ?_
  refine thenC_n ?_
  refine CS.seq ?_
  refine CS.seq ?_
  refine CS.region ?_
  refine RS.q rfl (QO.move) ?_
  refine RS.nil ?_
  refine thenC_n ?_
  refine CS.cond (by rfl) (fun hb0 => ?_) (fun hb0 => ?_)
  · refine CS.seq ?_
    refine CS.region ?_
    refine RS.q rfl (QO.move) ?_
    refine RS.q rfl (QO.assign) ?_
    refine RS.nil ?_
    refine thenC_n ?_
    refine CS.ret ?_
    refine thenC_r ?_
    refine retQ.mk (H' := []) (.inr rfl) (RVs.tmp (by rfl) RVs.nil) (List.nil_sublist _) ?_
    exact ⟨congrArg iv (by rw [hb0]; rfl), rfl⟩
  · refine CS.skip ?_
    refine thenC_n ?_
    refine CS.seq ?_
    refine CS.region ?_
    refine RS.q rfl (QO.assign) ?_
    refine RS.nil ?_
    refine thenC_n ?_
    refine CS.ret ?_
    refine retQ.mk (H' := []) (.inr rfl) (RVs.tmp (by rfl) RVs.nil) (List.nil_sublist _) ?_
    exact ⟨congrArg iv (by rw [hb0]; rfl), rfl⟩

set_option maxRecDepth 100000 in
theorem first2 (a b : Int) (g : Nat) (W : World) (hcell : ∀ j v, [iv a, iv b][j]? = some v → W.cell? ⟨g, j, none⟩ = some v) : Fn_ Try.prog 131 #[.slice (some ⟨g, 0, none⟩) 2 2] W (fun v H => v = iv (if a ≠ 0 then a else b) ∧ H = []) := by
  refine Fn_.intro Try.func131 rfl rfl (by rfl) ?_
  refine CS.seq ?_
  refine CS.region ?_
  refine RS.q rfl (QO.assign) ?_
  refine RS.nil ?_
  refine thenC_n ?_
  refine CS.seq ?_
  refine CS.seq ?_
  refine CS.region ?_
  refine RS.q rfl (QO.move) ?_
  refine RS.q rfl (QO.lenS Try.underlying183 (by rfl)) ?_
  refine RS.q rfl (QO.move) ?_
  refine RS.nil ?_
  refine thenC_n ?_
  refine CS.block ?_
  refine CS.loop (X := Nat) [2, 4, 7, 8, 9, 10, 11, 12, 13, 14] (fun k => [(7, iv (k : Int))]) (fun k => []) (fun k => k ≤ 2 ∧ ∀ j, j < k → f2 a b j = 0) (fun k => 2 - k) 0 ⟨Nat.zero_le _, fun j hj => absurd hj (Nat.not_lt_zero _)⟩ ?_ ?_ ?_
  · exact (by repeat (first | exact kn_nil | refine kn_cons (by rfl) ?_))
  · exact (by repeat (first | exact List.Sublist.refl _ | exact List.nil_sublist _ | refine List.Sublist.cons_cons _ ?_ | refine List.Sublist.cons _ ?_ | exact Sbp.refl | exact Sbp.nil | refine Sbp.cons (by repeat (first | exact Rem.head | apply Rem.tail)) ?_ | exact Sbp.app | refine Sbp.skip ?_))
  · intro k gj2 hz
    obtain ⟨hk, hz⟩ := hz
    refine CS.seq ?_
    refine CS.region ?_
    refine RS.q rfl (QO.lss (by rfl) (by rfl)) ?_
    refine RS.nil ?_
    refine thenC_n ?_
    refine CS.seq ?_
    refine CS.cond (by rfl) (fun hb0 => ?_) (fun hb0 => ?_)
    · have hb0p := of_decide_eq_true hb0
      refine CS.skip ?_
      refine thenC_n ?_
      refine CS.seq ?_
      refine CS.block ?_
      refine CS.seq ?_
      refine CS.region ?_
      first | (refine RS.q rfl (QO.idx0 Try.underlying183 ty30 (by rfl) (by rfl) (by rfl) (by omega)) ?_) | (refine RS.q rfl (QO.idxn Try.underlying183 ty30 (by rfl) (by rfl) (by rfl) (by omega)) ?_) | (refine RS.q rfl (QO.idx1 Try.underlying183 ty30 (by rfl) (by rfl) (by omega) (by omega)) ?_)
      refine RS.q rfl (QO.loadO ty30 (v := iv (f2 a b k)) (by rfl) (hcell _ _ (show [iv a, iv b][k]? = some (iv (f2 a b k)) from by
    match k, (show k < 2 by omega) with
    | 0, _ => rfl
    | 1, _ => rfl))) ?_
      refine RS.q rfl (QO.assign) ?_
      refine RS.nil ?_
      refine thenC_n ?_
      refine CS.seq ?_
      refine CS.region ?_
      refine RS.q rfl (QO.move) ?_
      refine RS.q rfl (QO.neq (by rfl) (by rfl)) ?_
      refine RS.nil ?_
      refine thenC_n ?_
      refine CS.cond (by rfl) (fun hb1 => ?_) (fun hb1 => ?_)
      · have hb1p := bne_iff_ne.1 hb1
        refine CS.seq ?_
        refine CS.region ?_
        refine RS.q rfl (QO.move) ?_
        refine RS.q rfl (QO.assign) ?_
        refine RS.nil ?_
        refine thenC_n ?_
        refine CS.ret ?_
        refine blockC_r ?_
        refine thenC_r ?_
        refine loopQ_r ?_
        refine blockC_r ?_
        refine thenC_r ?_
        refine retQ.mk (H' := []) (.inr rfl) (RVs.tmp (by rfl) RVs.nil) (List.nil_sublist _) ?_
        exact ⟨congrArg iv (show f2 a b k = if a ≠ 0 then a else b from by
            match k, (show k < 2 by omega), hz with
            | 0, _, _ => exact (if_pos hb1p).symm
            | 1, _, h9 => exact (if_neg (Decidable.not_not.2 (h9 0 (by omega)))).symm), rfl⟩
      · have hb1p := of_bne_false hb1
        refine CS.skip ?_
        refine blockC_n ?_
        refine thenC_n ?_
        refine CS.region ?_
        first | (refine RS.q rfl (QO.add (by rfl) (by rfl) (by omega) (by omega)) ?_) | (refine RS.q rfl (QO.ibin (by rfl) (by rfl) trivial) ?_)
        refine RS.q rfl (QO.move) ?_
        refine RS.nil ?_
        refine loopQ_n (by intro t ht; repeat (first | with_reducible exact rfl | exact frame_puts ht (frame_mix ht) _ rfl | (refine frame_put rfl ht ?_) | (refine frame_puts ht ?_ _ rfl) | exact frame_mix ht | (refine frame_mix2 rfl ht ?_) | exact rfl)) ?_
        exact ⟨k + 1, ⟨by omega, fun j hj => by
            by_cases e : j = k
            · subst e; exact of_bne_false hb1
            · exact hz j (by omega)⟩, by omega, (by repeat (first | exact kn_nil | refine kn_cons (by rfl) ?_)), (by repeat (first | exact List.Sublist.refl _ | exact List.nil_sublist _ | refine List.Sublist.cons_cons _ ?_ | refine List.Sublist.cons _ ?_ | exact Sbp.refl | exact Sbp.nil | refine Sbp.cons (by repeat (first | exact Rem.head | apply Rem.tail)) ?_ | exact Sbp.app | refine Sbp.skip ?_))⟩
    · have hb0p := of_decide_eq_false hb0
      refine CS.exit ?_
      refine thenC_x ?_
      refine loopQ_x ?_
      refine blockC_x ?_
      refine thenC_n ?_
      refine CS.seq ?_
      refine CS.region ?_
      refine RS.q rfl (QO.assign) ?_
      refine RS.nil ?_
      refine thenC_n ?_
      refine CS.ret ?_
      refine retQ.mk (H' := []) (.inr rfl) (RVs.tmp (by rfl) RVs.nil) (List.nil_sublist _) ?_
      obtain rfl : k = 2 := by omega
      exact ⟨congrArg iv (by rw [if_neg (Decidable.not_not.2 (show a = 0 from hz 0 (by omega)))]; exact (hz 1 (by omega)).symm), rfl⟩

set_option maxRecDepth 100000 in
theorem matteError (x y wi he : Int) (A : Option Addr) (m c : Nat) (W : World) (bx : -9223372036854775808 ≤ x ∧ x ≤ 9223372036854775807) : Fn_ Try.prog 48 #[.agg #[iv x, iv y, iv wi, iv he, .slice A m c]] W (fun v H => v = iv (mErr x y wi he m) ∧ H = []) := by
  refine Fn_.intro Try.func48 rfl rfl (by rfl) ?_
  refine CS.seq ?_
  refine CS.region ?_
  refine RS.box rfl (by rfl) (by rfl) ?_
  intro g1
  refine RS.q rfl (QO.assign) ?_
  refine RS.nil ?_
  refine thenC_n ?_
  refine CS.seq ?_
  refine CS.draw 18 rfl (by kernel_rfl) (by kernel_rfl) ?_
  refine RT.take (i := 0) rfl (by kernel_rfl) rfl (QO.fieldAddr fo64_0 (by rfl)) ?_
  first | (refine RT.take (i := 1) rfl (by kernel_rfl) rfl (QO.loadB ty23 (by rfl) (by repeat (first | exact List.Mem.head _ | refine List.Mem.tail _ ?_)) (by rfl)) ?_) | (refine RT.take (i := 1) rfl (by kernel_rfl) rfl (QO.loadA ty23 (by rfl) (by repeat (first | exact List.Mem.head _ | refine List.Mem.tail _ ?_)) (by rfl) (by rfl)) ?_) | (refine RT.take (i := 1) rfl (by kernel_rfl) rfl (QO.loadOA ty23 (by rfl) (by assumption) (by rfl)) ?_)
  refine RT.take (i := 3) rfl (by kernel_rfl) rfl (QO.fieldAddr fo64_1 (by rfl)) ?_
  first | (refine RT.take (i := 4) rfl (by kernel_rfl) rfl (QO.load ty24 (by rfl) (by repeat (first | exact List.Mem.head _ | refine List.Mem.tail _ ?_)) (by rfl)) ?_) | (refine RT.take (i := 4) rfl (by kernel_rfl) rfl (QO.loadO ty24 (by rfl) (by assumption)) ?_) | (refine RT.take (i := 4) rfl (by kernel_rfl) rfl (QO.load ty24 (by rfl) (by repeat (first | exact List.Mem.head _ | refine List.Mem.tail _ ?_)) (by assumption)) ?_)
  refine RT.take (i := 5) rfl (by kernel_rfl) rfl (QO.lenS Try.underlying24 (by rfl)) ?_
  refine RT.take (i := 6) rfl (by kernel_rfl) rfl (QO.fieldAddr fo64_0 (by rfl)) ?_
  refine RT.take (i := 7) rfl (by kernel_rfl) rfl (QO.fieldAddr fo23_2 (by rfl)) ?_
  first | (refine RT.take (i := 8) rfl (by kernel_rfl) rfl (QO.load ty3 (by rfl) (by repeat (first | exact List.Mem.head _ | refine List.Mem.tail _ ?_)) (by rfl)) ?_) | (refine RT.take (i := 8) rfl (by kernel_rfl) rfl (QO.loadO ty3 (by rfl) (by assumption)) ?_) | (refine RT.take (i := 8) rfl (by kernel_rfl) rfl (QO.load ty3 (by rfl) (by repeat (first | exact List.Mem.head _ | refine List.Mem.tail _ ?_)) (by assumption)) ?_)
  refine RT.take (i := 9) rfl (by kernel_rfl) rfl (QO.fieldAddr fo64_0 (by rfl)) ?_
  refine RT.take (i := 10) rfl (by kernel_rfl) rfl (QO.fieldAddr fo23_3 (by rfl)) ?_
  first | (refine RT.take (i := 11) rfl (by kernel_rfl) rfl (QO.load ty3 (by rfl) (by repeat (first | exact List.Mem.head _ | refine List.Mem.tail _ ?_)) (by rfl)) ?_) | (refine RT.take (i := 11) rfl (by kernel_rfl) rfl (QO.loadO ty3 (by rfl) (by assumption)) ?_) | (refine RT.take (i := 11) rfl (by kernel_rfl) rfl (QO.load ty3 (by rfl) (by repeat (first | exact List.Mem.head _ | refine List.Mem.tail _ ?_)) (by assumption)) ?_)
  refine RT.take (i := 12) rfl (by kernel_rfl) rfl (QO.ibin (by rfl) (by rfl) trivial) ?_
  refine RT.take (i := 13) rfl (by kernel_rfl) rfl (QO.neq (by rfl) (by rfl)) ?_
  refine RT.one (i := 2) (by kernel_rfl) rfl rfl ?_
  refine RS.call rfl (by rfl) ok35 (by rfl) (fun w ho => regionError _ _ _ _ _ bx) ?_
  rintro _ _ ⟨rfl, rfl⟩
  refine RS.nil ⟨(by repeat (first | exact List.Sublist.refl _ | exact List.nil_sublist _ | refine List.Sublist.cons_cons _ ?_ | refine List.Sublist.cons _ ?_ | exact Sbp.refl | exact Sbp.nil | refine Sbp.cons (by repeat (first | exact Rem.head | apply Rem.tail)) ?_ | exact Sbp.app | refine Sbp.skip ?_)), ?_⟩
  refine RT.one (i := 14) (by kernel_rfl) rfl rfl ?_
  refine RS.call rfl (by rfl) ok128 (by rfl) (fun w ho => when _ _ _) ?_
  rintro _ _ ⟨rfl, rfl⟩
  refine RS.nil ⟨(by repeat (first | exact List.Sublist.refl _ | exact List.nil_sublist _ | refine List.Sublist.cons_cons _ ?_ | refine List.Sublist.cons _ ?_ | exact Sbp.refl | exact Sbp.nil | refine Sbp.cons (by repeat (first | exact Rem.head | apply Rem.tail)) ?_ | exact Sbp.app | refine Sbp.skip ?_)), ?_⟩
  refine RT.one (i := 15) (by kernel_rfl) rfl rfl ?_
  refine RS.buildSlice rfl Try.underlying183 ty30 (by decide) (by decide) (by rfl) (by rfl) ?_
  intro g18
  refine RS.nil ⟨(by repeat (first | exact List.Sublist.refl _ | exact List.nil_sublist _ | refine List.Sublist.cons_cons _ ?_ | refine List.Sublist.cons _ ?_ | exact Sbp.refl | exact Sbp.nil | refine Sbp.cons (by repeat (first | exact Rem.head | apply Rem.tail)) ?_ | exact Sbp.app | refine Sbp.skip ?_)), ?_⟩
  refine RT.one (i := 16) (by kernel_rfl) rfl rfl ?_
  refine RS.call rfl (by rfl) ok131 (by rfl) (fun w ho => first2 _ _ _ _ (fun j v hj => ho.cell0 (by repeat (first | exact List.Mem.head _ | refine List.Mem.tail _ ?_)) hj)) ?_
  rintro _ _ ⟨rfl, rfl⟩
  refine RS.nil ⟨(by repeat (first | exact List.Sublist.refl _ | exact List.nil_sublist _ | refine List.Sublist.cons_cons _ ?_ | refine List.Sublist.cons _ ?_ | exact Sbp.refl | exact Sbp.nil | refine Sbp.cons (by repeat (first | exact Rem.head | apply Rem.tail)) ?_ | exact Sbp.app | refine Sbp.skip ?_)), ?_⟩
  refine RT.take (i := 17) rfl (by kernel_rfl) rfl (QO.assign) ?_
  refine RT.done (by kernel_rfl) ?_
  refine thenC_n ?_
  refine CS.ret ?_
  refine retQ.mk (H' := []) (.inr rfl) (RVs.tmp (by rfl) RVs.nil) (List.nil_sublist _) ?_
  exact ⟨congrArg iv (by
      by_cases h : regErr x y wi he = 0
      · rw [if_neg (by simpa using h)]
        have hro := regErr_ok h
        have hw : IntKind.i64.wrap (wi * he) = wi * he := w64 (by omega) (by omega)
        rw [hw]
        by_cases h2 : (m : Int) = wi * he
        · rw [← mErr_ok h h2, h2]; simp
        · rw [← mErr_len h h2, if_pos (by simpa using h2)]
      · rw [if_pos h]; exact mErr_reg h), rfl⟩

/-- what a call that hands back a frame or an error comes to -/
def FrR (err X Y wi he : Int) (vals : List Nat) (v : Value) (H : HL) : Prop :=
  (err = 0 ∧ ∃ g cap junk, v = .tuple #[.agg #[iv X, iv Y, iv wi, iv he, .slice (some ⟨g, 0, none⟩) vals.length cap], iv 0] ∧ H = [⟨g, 33, vals.map flt ++ junk⟩] ∧ vals.length ≤ cap ∧ cap ≤ maxLen) ∨
  (err ≠ 0 ∧ v = .tuple #[.agg #[iv 0, iv 0, iv 0, iv 0, .slice none 0 0], iv err] ∧ H = [])
def FV (err X Y wi he : Int) (vals : List Nat) (x y w h : Int) (A : Option Addr) (n : Nat) (H : HL) : Prop :=
  (err ≠ 0 ∧ x = 0 ∧ y = 0 ∧ w = 0 ∧ h = 0 ∧ n = 0) ∨ (err = 0 ∧ x = X ∧ y = Y ∧ w = wi ∧ h = he ∧ n = vals.length ∧ n ≤ maxLen ∧ ∃ g junk, A = some ⟨g, 0, none⟩ ∧ (⟨g, 33, vals.map flt ++ junk⟩ : B) ∈ H)
theorem FrR.any {err X Y wi he : Int} {vals : List Nat} {v : Value} {H : HL} (h : FrR err X Y wi he vals v H) :
    ∃ (x y w h : Int) (A : Option Addr) (n c : Nat), v = .tuple #[.agg #[iv x, iv y, iv w, iv h, .slice A n c], iv err] ∧ FV err X Y wi he vals x y w h A n H := by
  rcases h with ⟨h1, g, cap, junk, rfl, rfl, h2, h3⟩ | ⟨h1, rfl, rfl⟩
  · subst h1
    exact ⟨_, _, _, _, _, _, _, rfl, .inr ⟨rfl, rfl, rfl, rfl, rfl, rfl, by omega, g, junk, rfl, List.Mem.head _⟩⟩
  · exact ⟨_, _, _, _, _, _, _, rfl, .inl ⟨h1, rfl, rfl, rfl, rfl, rfl⟩⟩
/-- the same, in a world -/
def FW (err X Y wi he : Int) (vals : List Nat) (x y w h : Int) (A : Option Addr) (n : Nat) (W : World) : Prop :=
  (err ≠ 0 ∧ x = 0 ∧ y = 0 ∧ w = 0 ∧ h = 0 ∧ n = 0) ∨ (err = 0 ∧ x = X ∧ y = Y ∧ w = wi ∧ h = he ∧ n = vals.length ∧ n ≤ maxLen ∧ FS W A vals)
theorem FV.fw {err X Y wi he : Int} {vals : List Nat} {x y w h : Int} {A : Option Addr} {n : Nat} {H H' : HL} {W0 W : World} (hv : FV err X Y wi he vals x y w h A n H) (ho : Own W0 W H') (hs : ∀ b ∈ H, b ∈ H') : FW err X Y wi he vals x y w h A n W := by
  rcases hv with h1 | ⟨h1, h2, h3, h4, h5, h6, h7, g, junk, rfl, hm⟩
  · exact .inl h1
  · exact .inr ⟨h1, h2, h3, h4, h5, h6, h7, FS.blk ho (hs _ hm)⟩

set_option maxRecDepth 100000 in
theorem alike (err X Y wi he : Int) (vals : List Nat) (x y w_ h x' y' w' h' : Int) (A A' : Option Addr) (n c n' c' : Nat) (W : World) (h1 : FW err X Y wi he vals x y w_ h A n W) (h2 : FW err X Y wi he vals x' y' w' h' A' n' W) : Fn_ Try.prog 53 #[.agg #[iv x, iv y, iv w_, iv h, .slice A n c], iv err, .agg #[iv x', iv y', iv w', iv h', .slice A' n' c'], iv err] W (fun v H => v = .bool true ∧ H = []) := by
  refine Fn_.intro Try.func53 rfl rfl (by rfl) ?_
  refine CS.seq ?_
  refine CS.region ?_
  refine RS.box rfl (by rfl) (by rfl) ?_
  intro g4
  refine RS.box rfl (by rfl) (by rfl) ?_
  intro g6
  refine RS.q rfl (QO.assign) ?_
  refine RS.nil ?_
  refine thenC_n ?_
  refine CS.seq ?_
  refine CS.seq ?_
  refine CS.region ?_
  refine RS.q rfl (QO.move) ?_
  refine RS.q rfl (QO.move) ?_
  refine RS.qv rfl (QO.neq (by rfl) (by rfl)) (congrArg Value.bool (bne_self_eq_false err)) ?_
  refine RS.nil ?_
  refine thenC_n ?_
  refine CS.condF (by rfl) rfl ?_
  refine CS.skip ?_
  refine thenC_n ?_
  refine CS.seq ?_
  refine CS.seq ?_
  refine CS.region ?_
  refine RS.q rfl (QO.move) ?_
  refine RS.q rfl (QO.neq (by rfl) (by rfl)) ?_
  refine RS.nil ?_
  refine thenC_n ?_
  refine CS.cond (by rfl) (fun hb0 => ?_) (fun hb0 => ?_)
  · have hb0p := bne_iff_ne.1 hb0
    refine CS.seq ?_
    refine CS.region ?_
    obtain ⟨_, rfl, rfl, rfl, rfl, rfl⟩ := h1.resolve_right (fun hh => hb0p hh.1)
    refine RS.q rfl (QO.fieldAddr fo26_0 (by rfl)) ?_
    first | (refine RS.q rfl (QO.loadB ty23 (by rfl) (by repeat (first | exact List.Mem.head _ | refine List.Mem.tail _ ?_)) (by rfl)) ?_) | (refine RS.q rfl (QO.loadA ty23 (by rfl) (by repeat (first | exact List.Mem.head _ | refine List.Mem.tail _ ?_)) (by rfl) (by rfl)) ?_) | (refine RS.q rfl (QO.loadOA ty23 (by rfl) (by assumption) (by rfl)) ?_)
    refine RS.q rfl (QO.build ty23 pl23 (by rfl)) ?_
    first | (refine RS.q rfl (QO.seql4 eqt23 (by rfl) (by rfl)) ?_) | (refine RS.q rfl (QO.seql eqt23 (by decide) (by rfl) (by rfl) (by rfl) (by rfl)) ?_)
    refine RS.q rfl (QO.move) ?_
    refine RS.on (dj := 18) rfl (congrArg Value.bool rfl) ?_
    refine RS.q rfl (QO.fieldAddr fo26_1 (by rfl)) ?_
    refine RS.on (dj := 18) rfl (congrArg Value.bool rfl) ?_
    first | (refine RS.q rfl (QO.load ty24 (by rfl) (by repeat (first | exact List.Mem.head _ | refine List.Mem.tail _ ?_)) (by rfl)) ?_) | (refine RS.q rfl (QO.loadO ty24 (by rfl) (by assumption)) ?_) | (refine RS.q rfl (QO.load ty24 (by rfl) (by repeat (first | exact List.Mem.head _ | refine List.Mem.tail _ ?_)) (by assumption)) ?_)
    refine RS.on (dj := 18) rfl (congrArg Value.bool rfl) ?_
    refine RS.q rfl (QO.lenS Try.underlying24 (by rfl)) ?_
    refine RS.on (dj := 18) rfl (congrArg Value.bool rfl) ?_
    refine RS.q rfl (QO.eql (by rfl) (by rfl)) ?_
    refine RS.q rfl (QO.pickT (by rfl) rfl (by rfl)) ?_
    refine RS.q rfl (QO.assign) ?_
    refine RS.nil ?_
    refine thenC_n ?_
    refine CS.ret ?_
    refine thenC_r ?_
    refine retQ.mk (H' := []) (.inr rfl) (RVs.tmp (by rfl) RVs.nil) (List.nil_sublist _) ?_
    exact ⟨rfl, rfl⟩
  · have hb0p := of_bne_false hb0
    refine CS.skip ?_
    refine thenC_n ?_
    refine CS.seq ?_
    refine CS.region ?_
    obtain ⟨_, rfl, rfl, rfl, rfl, rfl, hmx, hfs⟩ := h1.resolve_left (fun hh => hh.1 (of_bne_false hb0))
    obtain ⟨_, rfl, rfl, rfl, rfl, rfl, _, hfs2⟩ := h2.resolve_left (fun hh => hh.1 (of_bne_false hb0))
    first | (refine RS.q rfl (QO.loadB ty26 (by rfl) (by repeat (first | exact List.Mem.head _ | refine List.Mem.tail _ ?_)) (by rfl)) ?_) | (refine RS.q rfl (QO.loadA ty26 (by rfl) (by repeat (first | exact List.Mem.head _ | refine List.Mem.tail _ ?_)) (by rfl) (by rfl)) ?_) | (refine RS.q rfl (QO.loadOA ty26 (by rfl) (by assumption) (by rfl)) ?_)
    first | (refine RS.q rfl (QO.loadB ty26 (by rfl) (by repeat (first | exact List.Mem.head _ | refine List.Mem.tail _ ?_)) (by rfl)) ?_) | (refine RS.q rfl (QO.loadA ty26 (by rfl) (by repeat (first | exact List.Mem.head _ | refine List.Mem.tail _ ?_)) (by rfl) (by rfl)) ?_) | (refine RS.q rfl (QO.loadOA ty26 (by rfl) (by assumption) (by rfl)) ?_)
    refine RS.call rfl (by rfl) ok33 (by rfl) (fun w ho => sameTrue _ _ _ _ _ _ _ _ _ _ vals w rfl rfl (hfs.own ho) (hfs2.own ho) hmx) ?_
    rintro _ _ ⟨rfl, rfl⟩
    refine RS.q rfl (QO.assign) ?_
    refine RS.nil ?_
    refine thenC_n ?_
    refine CS.ret ?_
    refine retQ.mk (H' := []) (.inr rfl) (RVs.tmp (by rfl) RVs.nil) (List.nil_sublist _) ?_
    exact ⟨rfl, rfl⟩

set_option maxRecDepth 100000 in
theorem both (x y wi he x2 y2 wi2 he2 : Int) (A B : Option Addr) (n c n2 c2 m : Nat) (ys zs : List Nat) (fc : FuncId) (cap : Array Value) (S : Nat → Nat) (W : World) (hn : ys.length = n) (hA : FS W A ys) (hn2 : zs.length = n2) (hB : FS W B zs) (hm : n = 4 * m) (hm2 : n2 = 4 * m) (h0 : 1 ≤ m) (h9 : m ≤ 65536) (hc : n ≤ c) (hok : callOK Try.prog fc = true) (hf : ∀ wd Hd, Own W wd Hd → ∀ i, i < n → ∀ q : Nat → Nat, Fn_ Try.prog fc (flt (ys.getD i 0) :: flt (zs.getD i 0) :: pxv q :: iv ((i / 4 : Nat) : Int) :: cap.toList).toArray wd (fun v H => v = flt (S i) ∧ H = [])) : Fn_ Try.prog 138 #[.agg #[iv x, iv y, iv wi, iv he, .slice A n c], .agg #[iv x2, iv y2, iv wi2, iv he2, .slice B n2 c2], .func (.func fc) #[] cap] W (fun v H => MadeR x y wi he ((List.range n).map fun i => cl (S i)) v H) := by
  subst hn
  subst hn2
  obtain ⟨bA, oA, rfl, hcA⟩ := hA (by omega)
  obtain ⟨bB, oB, rfl, hcB⟩ := hB (by omega)
  refine Fn_.intro Try.func138 rfl rfl (by rfl) ?_
  refine CS.seq ?_
  refine CS.region ?_
  refine RS.box rfl (by rfl) (by rfl) ?_
  intro g3
  refine RS.box rfl (by rfl) (by rfl) ?_
  intro g4
  refine RS.alloc rfl ty26 ?_
  intro g6
  refine RS.nil ?_
  refine thenC_n ?_
  refine CS.seq ?_
  refine CS.region ?_
  refine RS.q rfl (QO.fieldAddr fo26_0 (by rfl)) ?_
  first | (refine RS.q rfl (QO.loadB ty23 (by rfl) (by repeat (first | exact List.Mem.head _ | refine List.Mem.tail _ ?_)) (by rfl)) ?_) | (refine RS.q rfl (QO.loadA ty23 (by rfl) (by repeat (first | exact List.Mem.head _ | refine List.Mem.tail _ ?_)) (by rfl) (by rfl)) ?_) | (refine RS.q rfl (QO.loadOA ty23 (by rfl) (by assumption) (by rfl)) ?_)
  refine RS.q rfl (QO.build ty26 pl26 (by rfl)) ?_
  refine RS.alloc rfl ty26 ?_
  intro g7
  first | refine RS.storeB ty26 (by rfl) (by rfl) (by rfl) (by rfl) (by rfl) (by repeat (first | exact Upd.head | apply Upd.tail)) (by rfl) ?_ | refine RS.storeP ty26 (by rfl) (by rfl) (by rfl) (by rfl) (by rfl) (by repeat (first | exact Upd.head | apply Upd.tail)) (by rfl) ?_
  refine RS.nil ?_
  refine thenC_n ?_
  refine CS.seq ?_
  refine CS.seq ?_
  refine CS.region ?_
  refine RS.q rfl (QO.fieldAddr fo26_1 (by rfl)) ?_
  first | (refine RS.q rfl (QO.load ty24 (by rfl) (by repeat (first | exact List.Mem.head _ | refine List.Mem.tail _ ?_)) (by rfl)) ?_) | (refine RS.q rfl (QO.loadO ty24 (by rfl) (by assumption)) ?_) | (refine RS.q rfl (QO.load ty24 (by rfl) (by repeat (first | exact List.Mem.head _ | refine List.Mem.tail _ ?_)) (by assumption)) ?_)
  refine RS.q rfl (QO.lenS Try.underlying24 (by rfl)) ?_
  refine RS.q rfl (QO.move) ?_
  refine RS.nil ?_
  refine thenC_n ?_
  refine CS.block ?_
  refine CS.loop (X := Nat × Value × HL) (8 :: 9 :: 16 :: 17 :: 18 :: 19 :: 20 :: 21 :: 22 :: 23 :: 24 :: 25 :: 26 :: 27 :: 28 :: 29 :: 30 :: 31 :: 32 :: 33 :: 34 :: 35 :: 36 :: 37 :: 38 :: 39 :: 40 :: 41 :: 42 :: 43 :: 44 :: 45 :: 46 :: 47 :: 48 :: 49 :: 50 :: 51 :: 52 :: []) (fun z => [(16, iv (z.1 : Int))]) (fun z => ⟨g7, 26, [iv x, iv y, iv wi, iv he, z.2.1]⟩ :: ⟨g6, 26, [iv 0, iv 0, iv 0, iv 0, .slice none 0 0]⟩ :: ⟨g4, 26, [iv x2, iv y2, iv wi2, iv he2, .slice (some ⟨bB, oB, none⟩) zs.length c2]⟩ :: ⟨g3, 26, [iv x, iv y, iv wi, iv he, .slice (some ⟨bA, oA, none⟩) ys.length c]⟩ :: z.2.2) (fun z => z.1 ≤ ys.length ∧ Row 33 1 z.2.1 z.1 (((List.range z.1).map fun i => cl (S i)).map flt) z.2.2) (fun z => ys.length - z.1) (0, .slice none 0 0, []) ⟨Nat.zero_le _, .nil⟩ ?_ ?_ ?_
  · exact (by repeat (first | exact kn_nil | refine kn_cons (by rfl) ?_))
  · exact (by repeat (first | exact List.Sublist.refl _ | exact List.nil_sublist _ | refine List.Sublist.cons_cons _ ?_ | refine List.Sublist.cons _ ?_ | exact Sbp.refl | exact Sbp.nil | refine Sbp.cons (by repeat (first | exact Rem.head | apply Rem.tail)) ?_ | exact Sbp.app | refine Sbp.skip ?_))
  · intro z gj3 hz
    obtain ⟨k, vo, Hr⟩ := z
    obtain ⟨hk, hrow⟩ := hz
    simp only at hk hrow
    show CS _ _ _ _ _ (puts (mix _ _ _) [(16, iv (k : Int))]) (⟨g7, 26, [iv x, iv y, iv wi, iv he, vo]⟩ :: ⟨g6, 26, [iv 0, iv 0, iv 0, iv 0, .slice none 0 0]⟩ :: ⟨g4, 26, [iv x2, iv y2, iv wi2, iv he2, .slice (some ⟨bB, oB, none⟩) zs.length c2]⟩ :: ⟨g3, 26, [iv x, iv y, iv wi, iv he, .slice (some ⟨bA, oA, none⟩) ys.length c]⟩ :: Hr)
    refine CS.seq ?_
    refine CS.region ?_
    refine RS.q rfl (QO.lss (by rfl) (by rfl)) ?_
    refine RS.nil ?_
    refine thenC_n ?_
    refine CS.seq ?_
    refine CS.cond (by rfl) (fun hb0 => ?_) (fun hb0 => ?_)
    · have hb0p := of_decide_eq_true hb0
      refine CS.skip ?_
      refine thenC_n ?_
      refine CS.seq ?_
      refine CS.block ?_
      refine CS.seq ?_
      refine CS.region ?_
      refine RS.q rfl (QO.move) ?_
      refine RS.q rfl (QO.assign) ?_
      refine RS.nil ?_
      refine thenC_n ?_
      refine CS.seq ?_
      refine CS.region ?_
      refine RS.q rfl (QO.fieldAddr fo26_1 (by rfl)) ?_
      first | (refine RS.q rfl (QO.load ty24 (by rfl) (by repeat (first | exact List.Mem.head _ | refine List.Mem.tail _ ?_)) (by rfl)) ?_) | (refine RS.q rfl (QO.loadO ty24 (by rfl) (by assumption)) ?_) | (refine RS.q rfl (QO.load ty24 (by rfl) (by repeat (first | exact List.Mem.head _ | refine List.Mem.tail _ ?_)) (by assumption)) ?_)
      refine RS.q rfl (QO.move) ?_
      refine RS.qv rfl (QO.quo (by rfl) (by rfl) (by omega) (by omega) (by omega)) (congrArg iv (tdiv4 k)) ?_
      first | (refine RS.qv rfl (QO.mul (by rfl) (by rfl) (by omega) (by omega)) (congrArg iv (show ((k / 4 : Nat) : Int) * 4 = ((4 * (k / 4) : Nat) : Int) by omega)) ?_) | (refine RS.qv rfl (QO.ibin (by rfl) (by rfl) trivial) (congrArg iv (show ((k / 4 : Nat) : Int) * 4 = ((4 * (k / 4) : Nat) : Int) by omega)) ?_)
      refine RS.q rfl (QO.move) ?_
      refine RS.qv rfl (QO.quo (by rfl) (by rfl) (by omega) (by omega) (by omega)) (congrArg iv (tdiv4 k)) ?_
      first | (refine RS.qv rfl (QO.mul (by rfl) (by rfl) (by omega) (by omega)) (congrArg iv (show ((k / 4 : Nat) : Int) * 4 = ((4 * (k / 4) : Nat) : Int) by omega)) ?_) | (refine RS.qv rfl (QO.ibin (by rfl) (by rfl) trivial) (congrArg iv (show ((k / 4 : Nat) : Int) * 4 = ((4 * (k / 4) : Nat) : Int) by omega)) ?_)
      first | (refine RS.q rfl (QO.add (by rfl) (by rfl) (by omega) (by omega)) ?_) | (refine RS.q rfl (QO.ibin (by rfl) (by rfl) trivial) ?_)
      refine RS.q rfl (QO.cutLoHi Try.underlying24 ty33 (by rfl) (by rfl) (by rfl) (by omega) (by omega) (by omega)) ?_
      refine RS.qv rfl (QO.arrPtr Try.underlying35 (by rfl) (by omega)) (congrArg Value.pointer (show cutAt bA oA ((4 * (k / 4) : Nat) : Int).toNat c 1 = some ⟨bA, oA + 4 * (k / 4), none⟩ from by rw [Int.toNat_natCast, cutAt_eq (by omega), Nat.mul_one])) ?_
      have hpx : ∀ (j : Nat) (v : Value), [flt (ys.getD (4 * (k / 4) + 0) 0), flt (ys.getD (4 * (k / 4) + 1) 0), flt (ys.getD (4 * (k / 4) + 2) 0), flt (ys.getD (4 * (k / 4) + 3) 0)][j]? = some v → W.cell? ((⟨bA, oA + 4 * (k / 4), none⟩ : Addr).add j) = some v := by
        intro j v hj
        have hj4 : j < 4 := (List.getElem?_eq_some_iff.1 hj).1
        rw [idx4 (fun q => flt (ys.getD (4 * (k / 4) + q) 0)) j hj4] at hj
        have hj' : flt (ys.getD (4 * (k / 4) + j) 0) = v := by simpa using hj
        rw [← hj', addr_add, Nat.add_assoc]
        exact hcA _ _ (by rw [List.getElem?_eq_getElem (by omega), getD_at])
      refine RS.q rfl (QO.loadOA ty35 (vs := [flt (ys.getD (4 * (k / 4) + 0) 0), flt (ys.getD (4 * (k / 4) + 1) 0), flt (ys.getD (4 * (k / 4) + 2) 0), flt (ys.getD (4 * (k / 4) + 3) 0)]) (by rfl) hpx (by rfl)) ?_
      refine RS.alloc rfl ty35 ?_
      intro g9
      first | refine RS.storeB ty35 (by rfl) (by rfl) (by rfl) (by rfl) (by rfl) (by repeat (first | exact Upd.head | apply Upd.tail)) (by rfl) ?_ | refine RS.storeP ty35 (by rfl) (by rfl) (by rfl) (by rfl) (by rfl) (by repeat (first | exact Upd.head | apply Upd.tail)) (by rfl) ?_
      refine RS.nil ?_
      refine thenC_n ?_
      refine CS.drawS (HS := [⟨g9, 35, [flt (ys.getD (4 * (k / 4) + 0) 0), flt (ys.getD (4 * (k / 4) + 1) 0), flt (ys.getD (4 * (k / 4) + 2) 0), flt (ys.getD (4 * (k / 4) + 3) 0)]⟩, ⟨g7, 26, [iv x, iv y, iv wi, iv he, vo]⟩, ⟨g6, 26, [iv 0, iv 0, iv 0, iv 0, .slice none 0 0]⟩, ⟨g4, 26, [iv x2, iv y2, iv wi2, iv he2, .slice (some ⟨bB, oB, none⟩) zs.length c2]⟩, ⟨g3, 26, [iv x, iv y, iv wi, iv he, .slice (some ⟨bA, oA, none⟩) ys.length c]⟩]) 21 (by repeat (first | exact List.Sublist.refl _ | exact List.nil_sublist _ | refine List.Sublist.cons_cons _ ?_ | refine List.Sublist.cons _ ?_ | exact Sbp.refl | exact Sbp.nil | refine Sbp.cons (by repeat (first | exact Rem.head | apply Rem.tail)) ?_ | exact Sbp.app | refine Sbp.skip ?_)) rfl (by kernel_rfl) (by kernel_rfl) ?_
      refine RT.take (i := 0) rfl (by kernel_rfl) rfl (QO.fieldAddr fo26_1 (by rfl)) ?_
      first | (refine RT.take (i := 1) rfl (by kernel_rfl) rfl (QO.load ty24 (by rfl) (by repeat (first | exact List.Mem.head _ | refine List.Mem.tail _ ?_)) (by rfl)) ?_) | (refine RT.take (i := 1) rfl (by kernel_rfl) rfl (QO.loadO ty24 (by rfl) (by assumption)) ?_) | (refine RT.take (i := 1) rfl (by kernel_rfl) rfl (QO.load ty24 (by rfl) (by repeat (first | exact List.Mem.head _ | refine List.Mem.tail _ ?_)) (by assumption)) ?_)
      refine RT.take (i := 2) rfl (by kernel_rfl) rfl (QO.move) ?_
      refine RT.take (i := 3) rfl (by kernel_rfl) rfl (QO.fieldAddr fo26_1 (by rfl)) ?_
      first | (refine RT.take (i := 4) rfl (by kernel_rfl) rfl (QO.load ty24 (by rfl) (by repeat (first | exact List.Mem.head _ | refine List.Mem.tail _ ?_)) (by rfl)) ?_) | (refine RT.take (i := 4) rfl (by kernel_rfl) rfl (QO.loadO ty24 (by rfl) (by assumption)) ?_) | (refine RT.take (i := 4) rfl (by kernel_rfl) rfl (QO.load ty24 (by rfl) (by repeat (first | exact List.Mem.head _ | refine List.Mem.tail _ ?_)) (by assumption)) ?_)
      refine RT.take (i := 5) rfl (by kernel_rfl) rfl (QO.move) ?_
      first | (refine RT.take (i := 6) rfl (by kernel_rfl) rfl (QO.idx0 Try.underlying24 ty33 (by rfl) (by rfl) (by rfl) (by omega)) ?_) | (refine RT.take (i := 6) rfl (by kernel_rfl) rfl (QO.idxn Try.underlying24 ty33 (by rfl) (by rfl) (by rfl) (by omega)) ?_) | (refine RT.take (i := 6) rfl (by kernel_rfl) rfl (QO.idx1 Try.underlying24 ty33 (by rfl) (by rfl) (by omega) (by omega)) ?_)
      refine RT.take (i := 7) rfl (by kernel_rfl) rfl (QO.loadO ty33 (by rfl) (hcA _ _ (by rw [List.getElem?_eq_getElem (show k < ys.length by omega), getD_at]))) ?_
      refine RT.take (i := 8) rfl (by kernel_rfl) rfl (QO.fieldAddr fo26_1 (by rfl)) ?_
      first | (refine RT.take (i := 9) rfl (by kernel_rfl) rfl (QO.load ty24 (by rfl) (by repeat (first | exact List.Mem.head _ | refine List.Mem.tail _ ?_)) (by rfl)) ?_) | (refine RT.take (i := 9) rfl (by kernel_rfl) rfl (QO.loadO ty24 (by rfl) (by assumption)) ?_) | (refine RT.take (i := 9) rfl (by kernel_rfl) rfl (QO.load ty24 (by rfl) (by repeat (first | exact List.Mem.head _ | refine List.Mem.tail _ ?_)) (by assumption)) ?_)
      refine RT.take (i := 10) rfl (by kernel_rfl) rfl (QO.move) ?_
      first | (refine RT.take (i := 11) rfl (by kernel_rfl) rfl (QO.idx0 Try.underlying24 ty33 (by rfl) (by rfl) (by rfl) (by omega)) ?_) | (refine RT.take (i := 11) rfl (by kernel_rfl) rfl (QO.idxn Try.underlying24 ty33 (by rfl) (by rfl) (by rfl) (by omega)) ?_) | (refine RT.take (i := 11) rfl (by kernel_rfl) rfl (QO.idx1 Try.underlying24 ty33 (by rfl) (by rfl) (by omega) (by omega)) ?_)
      refine RT.take (i := 12) rfl (by kernel_rfl) rfl (QO.loadO ty33 (by rfl) (hcB _ _ (by rw [List.getElem?_eq_getElem (show k < zs.length by omega), getD_at]))) ?_
      first | (refine RT.take (i := 13) rfl (by kernel_rfl) rfl (QO.loadB ty35 (by rfl) (by repeat (first | exact List.Mem.head _ | refine List.Mem.tail _ ?_)) (by rfl)) ?_) | (refine RT.take (i := 13) rfl (by kernel_rfl) rfl (QO.loadA ty35 (by rfl) (by repeat (first | exact List.Mem.head _ | refine List.Mem.tail _ ?_)) (by rfl) (by rfl)) ?_) | (refine RT.take (i := 13) rfl (by kernel_rfl) rfl (QO.loadOA ty35 (by rfl) (by assumption) (by rfl)) ?_)
      refine RT.take (i := 14) rfl (by kernel_rfl) rfl (QO.move) ?_
      refine RT.takev (i := 15) rfl (by kernel_rfl) rfl (QO.quo (by rfl) (by rfl) (by omega) (by omega) (by omega)) (congrArg iv (tdiv4 k)) ?_
      refine RT.one (i := 16) (by kernel_rfl) rfl rfl ?_
      refine RS.call rfl (by rfl) hok (by rfl) (fun w ho => hf _ _ ho k (by omega) (fun q => ys.getD (4 * (k / 4) + q) 0)) ?_
      rintro _ _ ⟨rfl, rfl⟩
      refine RS.nil ⟨(by repeat (first | exact List.Sublist.refl _ | exact List.nil_sublist _ | refine List.Sublist.cons_cons _ ?_ | refine List.Sublist.cons _ ?_ | exact Sbp.refl | exact Sbp.nil | refine Sbp.cons (by repeat (first | exact Rem.head | apply Rem.tail)) ?_ | exact Sbp.app | refine Sbp.skip ?_)), ?_⟩
      refine RT.one (i := 17) (by kernel_rfl) rfl rfl ?_
      refine RS.call rfl (by rfl) ok100 (by rfl) (fun w ho => fix _ _) ?_
      rintro _ _ ⟨rfl, rfl⟩
      refine RS.nil ⟨(by repeat (first | exact List.Sublist.refl _ | exact List.nil_sublist _ | refine List.Sublist.cons_cons _ ?_ | refine List.Sublist.cons _ ?_ | exact Sbp.refl | exact Sbp.nil | refine Sbp.cons (by repeat (first | exact Rem.head | apply Rem.tail)) ?_ | exact Sbp.app | refine Sbp.skip ?_)), ?_⟩
      refine RT.one (i := 18) (by kernel_rfl) rfl rfl ?_
      refine RS.buildSlice rfl Try.underlying24 ty33 (by decide) (by decide) (by rfl) (by rfl) ?_
      intro g49
      refine RS.nil ⟨(by repeat (first | exact List.Sublist.refl _ | exact List.nil_sublist _ | refine List.Sublist.cons_cons _ ?_ | refine List.Sublist.cons _ ?_ | exact Sbp.refl | exact Sbp.nil | refine Sbp.cons (by repeat (first | exact Rem.head | apply Rem.tail)) ?_ | exact Sbp.app | refine Sbp.skip ?_)), ?_⟩
      refine RT.one (i := 19) (by kernel_rfl) rfl rfl ?_
      refine RS.appendRow rfl Try.underlying24 ty33 (by rfl) hrow (by repeat (first | exact Suf.base | apply Suf.cons)) (by rfl) (Src.blk (by repeat (first | exact List.Mem.head _ | refine List.Mem.tail _ ?_))) (by rfl) (by rfl) (by decide) (by decide) (by unfold maxLen; omega) (by omega) ?_
      intro v50 H50 hrow50
      refine RS.nil ⟨(by repeat (first | exact List.Sublist.refl _ | exact List.nil_sublist _ | refine List.Sublist.cons_cons _ ?_ | refine List.Sublist.cons _ ?_ | exact Sbp.refl | exact Sbp.nil | refine Sbp.cons (by repeat (first | exact Rem.head | apply Rem.tail)) ?_ | exact Sbp.app | refine Sbp.skip ?_)), ?_⟩
      refine RT.take (i := 20) rfl (by kernel_rfl) rfl (QO.fieldAddr fo26_1 (by rfl)) ?_
      obtain ⟨A50, c50, rfl, hA50, hc50⟩ := hrow50.slice
      refine RT.tail (i := 21) (by kernel_rfl) rfl rfl ?_
      refine RS.store1 ty24 rfl (by rfl) (by rfl) (by rfl) (by repeat (first | exact Upd.head | apply Upd.tail)) (by first | (simp; done) | (simp; omega) | omega) ?_
      refine RS.nil ?_
      refine RT.done (by kernel_rfl) ?_
      refine blockC_n ?_
      refine thenC_n ?_
      refine CS.region ?_
      first | (refine RS.q rfl (QO.add (by rfl) (by rfl) (by omega) (by omega)) ?_) | (refine RS.q rfl (QO.ibin (by rfl) (by rfl) trivial) ?_)
      refine RS.q rfl (QO.move) ?_
      refine RS.nil ?_
      refine loopQ_n (by intro t ht; repeat (first | with_reducible exact rfl | exact frame_puts ht (frame_mix ht) _ rfl | (refine frame_put rfl ht ?_) | (refine frame_puts ht ?_ _ rfl) | exact frame_mix ht | (refine frame_mix2 rfl ht ?_) | exact rfl)) ?_
      have hrw : Row 33 1 (.slice A50 (k + 1) c50) (k + 1) (((List.range k).map fun i => cl (S i)).map flt ++ [flt (cl (S k))]) H50 := hrow50
      exact ⟨(k + 1, .slice A50 (k + 1) c50, H50), ⟨by show k + 1 ≤ ys.length; omega, by simpa [List.range_succ] using hrw⟩, by show ys.length - (k + 1) < ys.length - k; omega, (by repeat (first | exact kn_nil | refine kn_cons (by rfl) ?_)), (by repeat (first | exact List.Sublist.refl _ | exact List.nil_sublist _ | refine List.Sublist.cons_cons _ ?_ | refine List.Sublist.cons _ ?_ | exact Sbp.refl | exact Sbp.nil | refine Sbp.cons (by repeat (first | exact Rem.head | apply Rem.tail)) ?_ | exact Sbp.app | refine Sbp.skip ?_))⟩
    · have hb0p := of_decide_eq_false hb0
      refine CS.exit ?_
      refine thenC_x ?_
      refine loopQ_x ?_
      refine blockC_x ?_
      refine thenC_n ?_
      refine CS.seq ?_
      refine CS.region ?_
      obtain rfl : k = ys.length := by omega
      obtain ⟨gm, cm, jm, rfl, rfl, hcm, hcx, _⟩ := hrow.some (by omega)
      first | (refine RS.q rfl (QO.loadB ty26 (by rfl) (by repeat (first | exact List.Mem.head _ | refine List.Mem.tail _ ?_)) (by rfl)) ?_) | (refine RS.q rfl (QO.loadA ty26 (by rfl) (by repeat (first | exact List.Mem.head _ | refine List.Mem.tail _ ?_)) (by rfl) (by rfl)) ?_) | (refine RS.q rfl (QO.loadOA ty26 (by rfl) (by assumption) (by rfl)) ?_)
      first | refine RS.storeB ty26 (by rfl) (by rfl) (by rfl) (by rfl) (by rfl) (by repeat (first | exact Upd.head | apply Upd.tail)) (by rfl) ?_ | refine RS.storeP ty26 (by rfl) (by rfl) (by rfl) (by rfl) (by rfl) (by repeat (first | exact Upd.head | apply Upd.tail)) (by rfl) ?_
      refine RS.nil ?_
      refine thenC_n ?_
      refine CS.ret ?_
      refine retQ.mk (H' := [⟨gm, 33, ((List.range ys.length).map fun i => cl (S i)).map flt ++ jm⟩]) (.inr rfl) (RVs.cellA ty26 (by rfl) (by repeat (first | exact List.Mem.head _ | refine List.Mem.tail _ ?_)) (by rfl) RVs.nil) (by repeat (first | exact List.Sublist.refl _ | exact List.nil_sublist _ | refine List.Sublist.cons_cons _ ?_ | refine List.Sublist.cons _ ?_ | exact Sbp.refl | exact Sbp.nil | refine Sbp.cons (by repeat (first | exact Rem.head | apply Rem.tail)) ?_ | exact Sbp.app | refine Sbp.skip ?_)) ?_
      exact ⟨gm, cm, jm, by rw [List.length_map, List.length_range]; rfl, rfl, by rw [List.length_map, List.length_range]; exact hcm, hcx⟩

theorem FS.at_ {W : World} {A : Option Addr} {xs : List Nat} (h : FS W A xs) (i : Nat) (hi : i < xs.length) : ∃ b o, A = some ⟨b, o, none⟩ ∧ W.cell? ⟨b, o + i, none⟩ = some (flt (xs.getD i 0)) := by
  obtain ⟨b, o, h1, h2⟩ := h (by omega)
  exact ⟨b, o, h1, h2 _ _ (by rw [List.getElem?_eq_getElem hi, getD_at])⟩

set_option maxRecDepth 100000 in
theorem mix1 (k g1 g2 g3 : Nat) (x1 y1 w1 h1_ x2 y2 w2 h2_ : Int) (A1 A2 : Option Addr) (n1 c1 n2 c2 t : Nat) (ys zs : List Nat) (W : World) (hg1 : ∀ j v, [iv x1, iv y1, iv w1, iv h1_, .slice A1 n1 c1][j]? = some v → W.cell? ((⟨g1, 0, none⟩ : Addr).add j) = some v) (hg2 : ∀ j v, [iv x2, iv y2, iv w2, iv h2_, .slice A2 n2 c2][j]? = some v → W.cell? ((⟨g2, 0, none⟩ : Addr).add j) = some v) (hg3 : W.cell? ⟨g3, 0, none⟩ = some (flt t)) (hn1 : ys.length = n1) (hn2 : zs.length = n2) (hA : FS W A1 ys) (hB : FS W A2 zs) (hk1 : k < n1) (hk2 : k < n2) : Fn_ Try.prog 136 #[iv (k : Int), .pointer (some ⟨g1, 0, none⟩), .pointer (some ⟨g2, 0, none⟩), .pointer (some ⟨g3, 0, none⟩)] W (fun v H => v = flt (lerpV (ys.getD k 0) (zs.getD k 0) t) ∧ H = []) := by
  obtain ⟨bA, oA, rfl, hcA⟩ := hA.at_ k (by omega)
  obtain ⟨bB, oB, rfl, hcB⟩ := hB.at_ k (by omega)
  refine Fn_.intro Try.func136 rfl rfl (by rfl) ?_
  refine CS.seq ?_
  refine CS.region ?_
  refine RS.q rfl (QO.assign) ?_
  refine RS.nil ?_
  refine thenC_n ?_
  refine CS.seq ?_
  refine CS.draw 13 rfl (by kernel_rfl) (by kernel_rfl) ?_
  refine RT.take (i := 0) rfl (by kernel_rfl) rfl (QO.fieldAddr fo26_1 (by rfl)) ?_
  refine RT.take (i := 1) rfl (by kernel_rfl) rfl (QO.loadO ty24 (by rfl) (by have := hg1 4 _ rfl; rwa [addr_add] at this)) ?_
  refine RT.take (i := 2) rfl (by kernel_rfl) rfl (QO.move) ?_
  first | (refine RT.take (i := 3) rfl (by kernel_rfl) rfl (QO.idx0 Try.underlying24 ty33 (by rfl) (by rfl) (by rfl) (by omega)) ?_) | (refine RT.take (i := 3) rfl (by kernel_rfl) rfl (QO.idxn Try.underlying24 ty33 (by rfl) (by rfl) (by rfl) (by omega)) ?_) | (refine RT.take (i := 3) rfl (by kernel_rfl) rfl (QO.idx1 Try.underlying24 ty33 (by rfl) (by rfl) (by omega) (by omega)) ?_)
  refine RT.take (i := 4) rfl (by kernel_rfl) rfl (QO.loadO ty33 (by rfl) hcA) ?_
  refine RT.take (i := 5) rfl (by kernel_rfl) rfl (QO.fieldAddr fo26_1 (by rfl)) ?_
  refine RT.take (i := 6) rfl (by kernel_rfl) rfl (QO.loadO ty24 (by rfl) (by have := hg2 4 _ rfl; rwa [addr_add] at this)) ?_
  refine RT.take (i := 7) rfl (by kernel_rfl) rfl (QO.move) ?_
  first | (refine RT.take (i := 8) rfl (by kernel_rfl) rfl (QO.idx0 Try.underlying24 ty33 (by rfl) (by rfl) (by rfl) (by omega)) ?_) | (refine RT.take (i := 8) rfl (by kernel_rfl) rfl (QO.idxn Try.underlying24 ty33 (by rfl) (by rfl) (by rfl) (by omega)) ?_) | (refine RT.take (i := 8) rfl (by kernel_rfl) rfl (QO.idx1 Try.underlying24 ty33 (by rfl) (by rfl) (by omega) (by omega)) ?_)
  refine RT.take (i := 9) rfl (by kernel_rfl) rfl (QO.loadO ty33 (by rfl) hcB) ?_
  refine RT.take (i := 10) rfl (by kernel_rfl) rfl (QO.loadO ty33 (by rfl) hg3) ?_
  refine RT.one (i := 11) (by kernel_rfl) rfl rfl ?_
  refine RS.call rfl (by rfl) ok137 (by rfl) (fun w ho => lerp _ _ _ _) ?_
  rintro _ _ ⟨rfl, rfl⟩
  refine RS.nil ⟨(by repeat (first | exact List.Sublist.refl _ | exact List.nil_sublist _ | refine List.Sublist.cons_cons _ ?_ | refine List.Sublist.cons _ ?_ | exact Sbp.refl | exact Sbp.nil | refine Sbp.cons (by repeat (first | exact Rem.head | apply Rem.tail)) ?_ | exact Sbp.app | refine Sbp.skip ?_)), ?_⟩
  refine RT.take (i := 12) rfl (by kernel_rfl) rfl (QO.assign) ?_
  refine RT.done (by kernel_rfl) ?_
  refine thenC_n ?_
  refine CS.ret ?_
  refine retQ.mk (H' := []) (.inr rfl) (RVs.tmp (by rfl) RVs.nil) (List.nil_sublist _) ?_
  exact ⟨rfl, rfl⟩

set_option maxRecDepth 100000 in
theorem rmix1 (p q t : Nat) (px : Nat → Nat) (i : Int) (g : Nat) (W : World) (hg : W.cell? ⟨g, 0, none⟩ = some (flt t)) : Fn_ Try.prog 139 #[flt p, flt q, pxv px, iv i, .pointer (some ⟨g, 0, none⟩)] W (fun v H => v = flt (lerpV p q t) ∧ H = []) := by
  refine Fn_.intro Try.func139 rfl rfl (by rfl) ?_
  refine CS.seq ?_
  refine CS.region ?_
  refine RS.box rfl (by rfl) (by rfl) ?_
  intro g7
  refine RS.q rfl (QO.assign) ?_
  refine RS.nil ?_
  refine thenC_n ?_
  refine CS.seq ?_
  refine CS.region ?_
  refine RS.q rfl (QO.move) ?_
  refine RS.q rfl (QO.move) ?_
  refine RS.q rfl (QO.loadO ty33 (by rfl) hg) ?_
  refine RS.call rfl (by rfl) ok140 (by rfl) (fun w ho => lerpOf _ _ _ _) ?_
  rintro _ _ ⟨rfl, rfl⟩
  refine RS.q rfl (QO.assign) ?_
  refine RS.nil ?_
  refine thenC_n ?_
  refine CS.ret ?_
  refine retQ.mk (H' := []) (.inr rfl) (RVs.tmp (by rfl) RVs.nil) (List.nil_sublist _) ?_
  exact ⟨rfl, rfl⟩

set_option maxRecDepth 100000 in
theorem through1 (k g1 g2 g3 : Nat) (x1 y1 w1 h1_ x2 y2 w2 h2_ x3 y3 w3 h3_ : Int) (A1 A2 A3 : Option Addr) (n1 c1 n2 c2 n3 c3 : Nat) (ys zs ms : List Nat) (W : World) (hg1 : ∀ j v, [iv x1, iv y1, iv w1, iv h1_, .slice A1 n1 c1][j]? = some v → W.cell? ((⟨g1, 0, none⟩ : Addr).add j) = some v) (hg2 : ∀ j v, [iv x2, iv y2, iv w2, iv h2_, .slice A2 n2 c2][j]? = some v → W.cell? ((⟨g2, 0, none⟩ : Addr).add j) = some v) (hg3 : ∀ j v, [iv x3, iv y3, iv w3, iv h3_, .slice A3 n3 c3][j]? = some v → W.cell? ((⟨g3, 0, none⟩ : Addr).add j) = some v) (hn1 : ys.length = n1) (hn2 : zs.length = n2) (hn3 : ms.length = n3) (hA : FS W A1 ys) (hB : FS W A2 zs) (hC : FS W A3 ms) (hk1 : k < n1) (hk2 : k < n2) (hk3 : k / 4 < n3) (hkm : k ≤ 1000000) : Fn_ Try.prog 141 #[iv (k : Int), .pointer (some ⟨g1, 0, none⟩), .pointer (some ⟨g2, 0, none⟩), .pointer (some ⟨g3, 0, none⟩)] W (fun v H => v = flt (lerpV (ys.getD k 0) (zs.getD k 0) (ms.getD (k / 4) 0)) ∧ H = []) := by
  obtain ⟨bA, oA, rfl, hcA⟩ := hA.at_ k (by omega)
  obtain ⟨bB, oB, rfl, hcB⟩ := hB.at_ k (by omega)
  obtain ⟨bC, oC, rfl, hcC⟩ := hC.at_ (k / 4) (by omega)
  refine Fn_.intro Try.func141 rfl rfl (by rfl) ?_
  refine CS.seq ?_
  refine CS.region ?_
  refine RS.q rfl (QO.assign) ?_
  refine RS.nil ?_
  refine thenC_n ?_
  refine CS.seq ?_
  refine CS.draw 18 rfl (by kernel_rfl) (by kernel_rfl) ?_
  refine RT.take (i := 0) rfl (by kernel_rfl) rfl (QO.fieldAddr fo26_1 (by rfl)) ?_
  refine RT.take (i := 1) rfl (by kernel_rfl) rfl (QO.loadO ty24 (by rfl) (by have := hg1 4 _ rfl; rwa [addr_add] at this)) ?_
  refine RT.take (i := 2) rfl (by kernel_rfl) rfl (QO.move) ?_
  first | (refine RT.take (i := 3) rfl (by kernel_rfl) rfl (QO.idx0 Try.underlying24 ty33 (by rfl) (by rfl) (by rfl) (by omega)) ?_) | (refine RT.take (i := 3) rfl (by kernel_rfl) rfl (QO.idxn Try.underlying24 ty33 (by rfl) (by rfl) (by rfl) (by omega)) ?_) | (refine RT.take (i := 3) rfl (by kernel_rfl) rfl (QO.idx1 Try.underlying24 ty33 (by rfl) (by rfl) (by omega) (by omega)) ?_)
  refine RT.take (i := 4) rfl (by kernel_rfl) rfl (QO.loadO ty33 (by rfl) hcA) ?_
  refine RT.take (i := 5) rfl (by kernel_rfl) rfl (QO.fieldAddr fo26_1 (by rfl)) ?_
  refine RT.take (i := 6) rfl (by kernel_rfl) rfl (QO.loadO ty24 (by rfl) (by have := hg2 4 _ rfl; rwa [addr_add] at this)) ?_
  refine RT.take (i := 7) rfl (by kernel_rfl) rfl (QO.move) ?_
  first | (refine RT.take (i := 8) rfl (by kernel_rfl) rfl (QO.idx0 Try.underlying24 ty33 (by rfl) (by rfl) (by rfl) (by omega)) ?_) | (refine RT.take (i := 8) rfl (by kernel_rfl) rfl (QO.idxn Try.underlying24 ty33 (by rfl) (by rfl) (by rfl) (by omega)) ?_) | (refine RT.take (i := 8) rfl (by kernel_rfl) rfl (QO.idx1 Try.underlying24 ty33 (by rfl) (by rfl) (by omega) (by omega)) ?_)
  refine RT.take (i := 9) rfl (by kernel_rfl) rfl (QO.loadO ty33 (by rfl) hcB) ?_
  refine RT.take (i := 10) rfl (by kernel_rfl) rfl (QO.fieldAddr fo64_1 (by rfl)) ?_
  refine RT.take (i := 11) rfl (by kernel_rfl) rfl (QO.loadO ty24 (by rfl) (by have := hg3 4 _ rfl; rwa [addr_add] at this)) ?_
  refine RT.take (i := 12) rfl (by kernel_rfl) rfl (QO.move) ?_
  refine RT.takev (i := 13) rfl (by kernel_rfl) rfl (QO.quo (by rfl) (by rfl) (by omega) (by omega) (by omega)) (congrArg iv (tdiv4 k)) ?_
  first | (refine RT.take (i := 14) rfl (by kernel_rfl) rfl (QO.idx0 Try.underlying24 ty33 (by rfl) (by rfl) (by rfl) (by omega)) ?_) | (refine RT.take (i := 14) rfl (by kernel_rfl) rfl (QO.idxn Try.underlying24 ty33 (by rfl) (by rfl) (by rfl) (by omega)) ?_) | (refine RT.take (i := 14) rfl (by kernel_rfl) rfl (QO.idx1 Try.underlying24 ty33 (by rfl) (by rfl) (by omega) (by omega)) ?_)
  refine RT.take (i := 15) rfl (by kernel_rfl) rfl (QO.loadO ty33 (by rfl) hcC) ?_
  refine RT.one (i := 16) (by kernel_rfl) rfl rfl ?_
  refine RS.call rfl (by rfl) ok137 (by rfl) (fun w ho => lerp _ _ _ _) ?_
  rintro _ _ ⟨rfl, rfl⟩
  refine RS.nil ⟨(by repeat (first | exact List.Sublist.refl _ | exact List.nil_sublist _ | refine List.Sublist.cons_cons _ ?_ | refine List.Sublist.cons _ ?_ | exact Sbp.refl | exact Sbp.nil | refine Sbp.cons (by repeat (first | exact Rem.head | apply Rem.tail)) ?_ | exact Sbp.app | refine Sbp.skip ?_)), ?_⟩
  refine RT.take (i := 17) rfl (by kernel_rfl) rfl (QO.assign) ?_
  refine RT.done (by kernel_rfl) ?_
  refine thenC_n ?_
  refine CS.ret ?_
  refine retQ.mk (H' := []) (.inr rfl) (RVs.tmp (by rfl) RVs.nil) (List.nil_sublist _) ?_
  exact ⟨rfl, rfl⟩

set_option maxRecDepth 100000 in
theorem rthrough1 (p q : Nat) (px : Nat → Nat) (i g3 : Nat) (x3 y3 w3 h3_ : Int) (A3 : Option Addr) (n3 c3 : Nat) (ms : List Nat) (W : World) (hg3 : ∀ j v, [iv x3, iv y3, iv w3, iv h3_, .slice A3 n3 c3][j]? = some v → W.cell? ((⟨g3, 0, none⟩ : Addr).add j) = some v) (hn3 : ms.length = n3) (hC : FS W A3 ms) (hk3 : i < n3) : Fn_ Try.prog 142 #[flt p, flt q, pxv px, iv (i : Int), .pointer (some ⟨g3, 0, none⟩)] W (fun v H => v = flt (lerpV p q (ms.getD i 0)) ∧ H = []) := by
  obtain ⟨bC, oC, rfl, hcC⟩ := hC.at_ i (by omega)
  refine Fn_.intro Try.func142 rfl rfl (by rfl) ?_
  refine CS.seq ?_
  refine CS.region ?_
  refine RS.box rfl (by rfl) (by rfl) ?_
  intro g7
  refine RS.q rfl (QO.assign) ?_
  refine RS.nil ?_
  refine thenC_n ?_
  refine CS.seq ?_
  refine CS.region ?_
  refine RS.q rfl (QO.move) ?_
  refine RS.q rfl (QO.move) ?_
  refine RS.q rfl (QO.fieldAddr fo64_1 (by rfl)) ?_
  refine RS.q rfl (QO.loadO ty24 (by rfl) (by have := hg3 4 _ rfl; rwa [addr_add] at this)) ?_
  refine RS.q rfl (QO.move) ?_
  first | (refine RS.q rfl (QO.idx0 Try.underlying24 ty33 (by rfl) (by rfl) (by rfl) (by omega)) ?_) | (refine RS.q rfl (QO.idxn Try.underlying24 ty33 (by rfl) (by rfl) (by rfl) (by omega)) ?_) | (refine RS.q rfl (QO.idx1 Try.underlying24 ty33 (by rfl) (by rfl) (by omega) (by omega)) ?_)
  refine RS.q rfl (QO.loadO ty33 (by rfl) hcC) ?_
  refine RS.call rfl (by rfl) ok140 (by rfl) (fun w ho => lerpOf _ _ _ _) ?_
  rintro _ _ ⟨rfl, rfl⟩
  refine RS.q rfl (QO.assign) ?_
  refine RS.nil ?_
  refine thenC_n ?_
  refine CS.ret ?_
  refine retQ.mk (H' := []) (.inr rfl) (RVs.tmp (by rfl) RVs.nil) (List.nil_sublist _) ?_
  exact ⟨rfl, rfl⟩

/-- frames must lie alike -/
def plc (r r2 : List Int) : Int := if r = r2 then 0 else 5
def thE (e : Int) (r r2 r3 : List Int) : Int := if e ≠ 0 then e else if r = r2 ∧ r = r3 then 0 else 5
theorem FrR.mk0 {err X Y wi he : Int} {vals : List Nat} {g n : Nat} (hl : vals.length = n) (hn : n ≤ maxLen) (e : err = 0) : FrR err X Y wi he vals (.tuple #[.agg #[iv X, iv Y, iv wi, iv he, .slice (some ⟨g, 0, none⟩) n n], iv 0]) [⟨g, 33, vals.map flt⟩] := by
  subst hl
  exact .inl ⟨e, g, _, [], rfl, by rw [List.append_nil], Nat.le_refl _, hn⟩
theorem FrR.mkE {err X Y wi he k : Int} {vals : List Nat} (e : err = k) (hk : k ≠ 0) : FrR err X Y wi he vals (.tuple #[.agg #[iv 0, iv 0, iv 0, iv 0, .slice none 0 0], iv k]) [] := by
  subst e
  exact .inr ⟨hk, rfl, rfl⟩
theorem reg_eq {a b c d a' b' c' d' : Int} (h : [a, b, c, d] = [a', b', c', d']) : a = a' ∧ b = b' ∧ c = c' ∧ d = d' := by simpa using h
def mixV (ys zs : List Nat) (t n : Nat) : List Nat := (List.range n).map fun i => cl (lerpV (ys.getD i 0) (zs.getD i 0) t)
def thrV (ys zs ms : List Nat) (n : Nat) : List Nat := (List.range n).map fun i => cl (lerpV (ys.getD i 0) (zs.getD i 0) (ms.getD (i / 4) 0))

set_option maxRecDepth 100000 in
theorem mix_ (X Y wi he X2 Y2 wi2 he2 : Int) (A B : Option Addr) (n c n2 c2 t : Nat) (ys zs : List Nat) (W : World) (hn : ys.length = n) (hn2 : zs.length = n2) (hA : FS W A ys) (hB : FS W B zs) (hfr : frErr X Y wi he n = 0) (hfr2 : frErr X2 Y2 wi2 he2 n2 = 0) : Fn_ Try.prog 51 #[.agg #[iv X, iv Y, iv wi, iv he, .slice A n c], .agg #[iv X2, iv Y2, iv wi2, iv he2, .slice B n2 c2], flt t] W (fun v H => FrR (plc [X, Y, wi, he] [X2, Y2, wi2, he2]) X Y wi he (mixV ys zs t n) v H) := by
  obtain ⟨hr0, hn0⟩ := frErr_ok hfr
  have hro := regErr_ok hr0
  obtain ⟨hr02, hn02⟩ := frErr_ok hfr2
  refine Fn_.intro Try.func51 rfl rfl (by rfl) ?_
  refine CS.seq ?_
  refine CS.region ?_
  refine RS.box rfl (by rfl) (by rfl) ?_
  intro g3
  refine RS.box rfl (by rfl) (by rfl) ?_
  intro g4
  refine RS.box rfl (by rfl) (by rfl) ?_
  intro g5
  refine RS.alloc rfl ty26 ?_
  intro g6
  refine RS.q rfl (QO.assign) ?_
  refine RS.nil ?_
  refine thenC_n ?_
  refine CS.seq ?_
  refine CS.seq ?_
  refine CS.region ?_
  first | (refine RS.q rfl (QO.loadB ty26 (by rfl) (by repeat (first | exact List.Mem.head _ | refine List.Mem.tail _ ?_)) (by rfl)) ?_) | (refine RS.q rfl (QO.loadA ty26 (by rfl) (by repeat (first | exact List.Mem.head _ | refine List.Mem.tail _ ?_)) (by rfl) (by rfl)) ?_) | (refine RS.q rfl (QO.loadOA ty26 (by rfl) (by assumption) (by rfl)) ?_)
  first | (refine RS.q rfl (QO.loadB ty26 (by rfl) (by repeat (first | exact List.Mem.head _ | refine List.Mem.tail _ ?_)) (by rfl)) ?_) | (refine RS.q rfl (QO.loadA ty26 (by rfl) (by repeat (first | exact List.Mem.head _ | refine List.Mem.tail _ ?_)) (by rfl) (by rfl)) ?_) | (refine RS.q rfl (QO.loadOA ty26 (by rfl) (by assumption) (by rfl)) ?_)
  refine RS.buildSlice rfl Try.underlying127 ty26 (by decide) (by decide) (by rfl) (by rfl) ?_
  intro g11
  refine RS.call rfl (by rfl) ok135 (by rfl) (fun w ho => checkAll X Y X2 Y2 wi he wi2 he2 A B n n2 c c2 g11 w (fun j v hj => ho.cellAt (by repeat (first | exact List.Mem.head _ | refine List.Mem.tail _ ?_)) hj) hfr hfr2) ?_
  rintro _ _ ⟨rfl, rfl⟩
  refine RS.q rfl (QO.assign) ?_
  refine RS.nil ?_
  refine thenC_n ?_
  refine CS.seq ?_
  refine CS.region ?_
  refine RS.q rfl (QO.move) ?_
  refine RS.q rfl (QO.neq (by rfl) (by rfl)) ?_
  refine RS.nil ?_
  refine thenC_n ?_
  refine CS.condF (by rfl) rfl ?_
  refine CS.skip ?_
  refine thenC_n ?_
  refine CS.seq ?_
  refine CS.seq ?_
  refine CS.region ?_
  refine RS.q rfl (QO.fieldAddr fo26_0 (by rfl)) ?_
  first | (refine RS.q rfl (QO.loadB ty23 (by rfl) (by repeat (first | exact List.Mem.head _ | refine List.Mem.tail _ ?_)) (by rfl)) ?_) | (refine RS.q rfl (QO.loadA ty23 (by rfl) (by repeat (first | exact List.Mem.head _ | refine List.Mem.tail _ ?_)) (by rfl) (by rfl)) ?_) | (refine RS.q rfl (QO.loadOA ty23 (by rfl) (by assumption) (by rfl)) ?_)
  refine RS.q rfl (QO.fieldAddr fo26_0 (by rfl)) ?_
  first | (refine RS.q rfl (QO.loadB ty23 (by rfl) (by repeat (first | exact List.Mem.head _ | refine List.Mem.tail _ ?_)) (by rfl)) ?_) | (refine RS.q rfl (QO.loadA ty23 (by rfl) (by repeat (first | exact List.Mem.head _ | refine List.Mem.tail _ ?_)) (by rfl) (by rfl)) ?_) | (refine RS.q rfl (QO.loadOA ty23 (by rfl) (by assumption) (by rfl)) ?_)
  first | (refine RS.q rfl (QO.sneq4 eqt23 (by rfl) (by rfl)) ?_) | (refine RS.q rfl (QO.sneq eqt23 (by decide) (by rfl) (by rfl) (by rfl) (by rfl)) ?_)
  refine RS.nil ?_
  refine thenC_n ?_
  refine CS.cond (by rfl) (fun hb0 => ?_) (fun hb0 => ?_)
  · have hb0p := bne_iff_ne.1 hb0
    refine CS.seq ?_
    refine CS.region ?_
    refine RS.q rfl (QO.build ty26 pl26 (by rfl)) ?_
    first | refine RS.storeB ty26 (by rfl) (by rfl) (by rfl) (by rfl) (by rfl) (by repeat (first | exact Upd.head | apply Upd.tail)) (by rfl) ?_ | refine RS.storeP ty26 (by rfl) (by rfl) (by rfl) (by rfl) (by rfl) (by repeat (first | exact Upd.head | apply Upd.tail)) (by rfl) ?_
    refine RS.q rfl (QO.assign) ?_
    refine RS.nil ?_
    refine thenC_n ?_
    refine CS.ret ?_
    refine thenC_r ?_
    refine retQ.mk (H' := []) (.inr rfl) (RVs.cellA ty26 (by rfl) (by repeat (first | exact List.Mem.head _ | refine List.Mem.tail _ ?_)) (by rfl) (RVs.tmp (by rfl) RVs.nil)) (List.nil_sublist _) ?_
    exact FrR.mkE (if_neg hb0p) (by decide)
  · have hb0p := of_bne_false hb0
    refine CS.skip ?_
    refine thenC_n ?_
    refine CS.seq ?_
    refine CS.region ?_
    have h5 := of_bne_false hb0
    obtain ⟨e1, e2, e3, e4⟩ := reg_eq h5
    subst e1 e2 e3 e4
    obtain rfl : n = n2 := by omega
    refine RS.q rfl (QO.fieldAddr fo26_0 (by rfl)) ?_
    first | (refine RS.q rfl (QO.loadB ty23 (by rfl) (by repeat (first | exact List.Mem.head _ | refine List.Mem.tail _ ?_)) (by rfl)) ?_) | (refine RS.q rfl (QO.loadA ty23 (by rfl) (by repeat (first | exact List.Mem.head _ | refine List.Mem.tail _ ?_)) (by rfl) (by rfl)) ?_) | (refine RS.q rfl (QO.loadOA ty23 (by rfl) (by assumption) (by rfl)) ?_)
    refine RS.q rfl (QO.makeFunc) ?_
    refine RS.call rfl (by rfl) ok118 (by rfl) (fun w ho => each X Y wi he n 136 _ (fun i => lerpV (ys.getD i 0) (zs.getD i 0) t) _ hn0 (by omega) (by omega) (by omega) (by kernel_rfl) (fun wd Hd hd i hi => mix1 i g3 g4 g5 X Y wi he X Y wi he A B n c n c2 t ys zs wd (fun j v hj => hd.old (ho.cellAt (by repeat (first | exact List.Mem.head _ | refine List.Mem.tail _ ?_)) hj)) (fun j v hj => hd.old (ho.cellAt (by repeat (first | exact List.Mem.head _ | refine List.Mem.tail _ ?_)) hj)) (hd.old (ho.cell0 (by repeat (first | exact List.Mem.head _ | refine List.Mem.tail _ ?_)) rfl)) hn hn2 ((hA.own ho).own hd) ((hB.own ho).own hd) hi hi)) ?_
    rintro _ _ ⟨ge, rfl, rfl⟩
    first | refine RS.storeB ty26 (by rfl) (by rfl) (by rfl) (by rfl) (by rfl) (by repeat (first | exact Upd.head | apply Upd.tail)) (by rfl) ?_ | refine RS.storeP ty26 (by rfl) (by rfl) (by rfl) (by rfl) (by rfl) (by repeat (first | exact Upd.head | apply Upd.tail)) (by rfl) ?_
    refine RS.q rfl (QO.assign) ?_
    refine RS.nil ?_
    refine thenC_n ?_
    refine CS.ret ?_
    refine retQ.mk (H' := [⟨ge, 33, (mixV ys zs t n).map flt⟩]) (.inr rfl) (RVs.cellA ty26 (by rfl) (by repeat (first | exact List.Mem.head _ | refine List.Mem.tail _ ?_)) (by rfl) (RVs.tmp (by rfl) RVs.nil)) (by repeat (first | exact List.Sublist.refl _ | exact List.nil_sublist _ | refine List.Sublist.cons_cons _ ?_ | refine List.Sublist.cons _ ?_ | exact Sbp.refl | exact Sbp.nil | refine Sbp.cons (by repeat (first | exact Rem.head | apply Rem.tail)) ?_ | exact Sbp.app | refine Sbp.skip ?_)) ?_
    exact FrR.mk0 (by simp [mixV]) (by unfold maxLen; omega) (if_pos rfl)

set_option maxRecDepth 100000 in
theorem rmix (X Y wi he X2 Y2 wi2 he2 : Int) (A B : Option Addr) (n c n2 c2 t m : Nat) (ys zs : List Nat) (W : World) (hn : ys.length = n) (hn2 : zs.length = n2) (hA : FS W A ys) (hB : FS W B zs) (hfr : frErr X Y wi he n = 0) (hfr2 : frErr X2 Y2 wi2 he2 n2 = 0) (hm : n = 4 * m) (hc : n ≤ c) : Fn_ Try.prog 52 #[.agg #[iv X, iv Y, iv wi, iv he, .slice A n c], .agg #[iv X2, iv Y2, iv wi2, iv he2, .slice B n2 c2], flt t] W (fun v H => FrR (plc [X, Y, wi, he] [X2, Y2, wi2, he2]) X Y wi he (mixV ys zs t n) v H) := by
  obtain ⟨hr0, hn0⟩ := frErr_ok hfr
  have hro := regErr_ok hr0
  obtain ⟨hr02, hn02⟩ := frErr_ok hfr2
  refine Fn_.intro Try.func52 rfl rfl (by rfl) ?_
  refine CS.seq ?_
  refine CS.region ?_
  refine RS.box rfl (by rfl) (by rfl) ?_
  intro g3
  refine RS.box rfl (by rfl) (by rfl) ?_
  intro g4
  refine RS.box rfl (by rfl) (by rfl) ?_
  intro g5
  refine RS.alloc rfl ty26 ?_
  intro g6
  refine RS.q rfl (QO.assign) ?_
  refine RS.nil ?_
  refine thenC_n ?_
  refine CS.seq ?_
  refine CS.seq ?_
  refine CS.region ?_
  refine RS.q rfl (QO.fieldAddr fo26_0 (by rfl)) ?_
  first | (refine RS.q rfl (QO.loadB ty23 (by rfl) (by repeat (first | exact List.Mem.head _ | refine List.Mem.tail _ ?_)) (by rfl)) ?_) | (refine RS.q rfl (QO.loadA ty23 (by rfl) (by repeat (first | exact List.Mem.head _ | refine List.Mem.tail _ ?_)) (by rfl) (by rfl)) ?_) | (refine RS.q rfl (QO.loadOA ty23 (by rfl) (by assumption) (by rfl)) ?_)
  refine RS.q rfl (QO.fieldAddr fo26_0 (by rfl)) ?_
  first | (refine RS.q rfl (QO.loadB ty23 (by rfl) (by repeat (first | exact List.Mem.head _ | refine List.Mem.tail _ ?_)) (by rfl)) ?_) | (refine RS.q rfl (QO.loadA ty23 (by rfl) (by repeat (first | exact List.Mem.head _ | refine List.Mem.tail _ ?_)) (by rfl) (by rfl)) ?_) | (refine RS.q rfl (QO.loadOA ty23 (by rfl) (by assumption) (by rfl)) ?_)
  first | (refine RS.q rfl (QO.sneq4 eqt23 (by rfl) (by rfl)) ?_) | (refine RS.q rfl (QO.sneq eqt23 (by decide) (by rfl) (by rfl) (by rfl) (by rfl)) ?_)
  refine RS.nil ?_
  refine thenC_n ?_
  refine CS.cond (by rfl) (fun hb0 => ?_) (fun hb0 => ?_)
  · have hb0p := bne_iff_ne.1 hb0
    refine CS.seq ?_
    refine CS.region ?_
    refine RS.q rfl (QO.build ty26 pl26 (by rfl)) ?_
    first | refine RS.storeB ty26 (by rfl) (by rfl) (by rfl) (by rfl) (by rfl) (by repeat (first | exact Upd.head | apply Upd.tail)) (by rfl) ?_ | refine RS.storeP ty26 (by rfl) (by rfl) (by rfl) (by rfl) (by rfl) (by repeat (first | exact Upd.head | apply Upd.tail)) (by rfl) ?_
    refine RS.q rfl (QO.assign) ?_
    refine RS.nil ?_
    refine thenC_n ?_
    refine CS.ret ?_
    refine thenC_r ?_
    refine retQ.mk (H' := []) (.inr rfl) (RVs.cellA ty26 (by rfl) (by repeat (first | exact List.Mem.head _ | refine List.Mem.tail _ ?_)) (by rfl) (RVs.tmp (by rfl) RVs.nil)) (List.nil_sublist _) ?_
    exact FrR.mkE (if_neg hb0p) (by decide)
  · have hb0p := of_bne_false hb0
    refine CS.skip ?_
    refine thenC_n ?_
    refine CS.seq ?_
    refine CS.region ?_
    have h5 := of_bne_false hb0
    obtain ⟨e1, e2, e3, e4⟩ := reg_eq h5
    subst e1 e2 e3 e4
    obtain rfl : n = n2 := by omega
    first | (refine RS.q rfl (QO.loadB ty26 (by rfl) (by repeat (first | exact List.Mem.head _ | refine List.Mem.tail _ ?_)) (by rfl)) ?_) | (refine RS.q rfl (QO.loadA ty26 (by rfl) (by repeat (first | exact List.Mem.head _ | refine List.Mem.tail _ ?_)) (by rfl) (by rfl)) ?_) | (refine RS.q rfl (QO.loadOA ty26 (by rfl) (by assumption) (by rfl)) ?_)
    first | (refine RS.q rfl (QO.loadB ty26 (by rfl) (by repeat (first | exact List.Mem.head _ | refine List.Mem.tail _ ?_)) (by rfl)) ?_) | (refine RS.q rfl (QO.loadA ty26 (by rfl) (by repeat (first | exact List.Mem.head _ | refine List.Mem.tail _ ?_)) (by rfl) (by rfl)) ?_) | (refine RS.q rfl (QO.loadOA ty26 (by rfl) (by assumption) (by rfl)) ?_)
    refine RS.q rfl (QO.makeFunc) ?_
    refine RS.call rfl (by rfl) ok138 (by rfl) (fun w ho => both X Y wi he X Y wi he A B n c n c2 m ys zs 139 _ (fun i => lerpV (ys.getD i 0) (zs.getD i 0) t) _ hn (hA.own ho) hn2 (hB.own ho) hm hm (by omega) (by omega) hc (by kernel_rfl) (fun wd Hd hd i hi q => rmix1 _ _ t q _ g5 wd (hd.old (ho.cell0 (by repeat (first | exact List.Mem.head _ | refine List.Mem.tail _ ?_)) rfl)))) ?_
    intro v17 H17 h17
    obtain ⟨gm, cm, jm, rfl, rfl, hcm, hcx⟩ := h17
    first | refine RS.storeB ty26 (by rfl) (by rfl) (by rfl) (by rfl) (by rfl) (by repeat (first | exact Upd.head | apply Upd.tail)) (by rfl) ?_ | refine RS.storeP ty26 (by rfl) (by rfl) (by rfl) (by rfl) (by rfl) (by repeat (first | exact Upd.head | apply Upd.tail)) (by rfl) ?_
    refine RS.q rfl (QO.assign) ?_
    refine RS.nil ?_
    refine thenC_n ?_
    refine CS.ret ?_
    refine retQ.mk (H' := [⟨gm, 33, (mixV ys zs t n).map flt ++ jm⟩]) (.inr rfl) (RVs.cellA ty26 (by rfl) (by repeat (first | exact List.Mem.head _ | refine List.Mem.tail _ ?_)) (by rfl) (RVs.tmp (by rfl) RVs.nil)) (by repeat (first | exact List.Sublist.refl _ | exact List.nil_sublist _ | refine List.Sublist.cons_cons _ ?_ | refine List.Sublist.cons _ ?_ | exact Sbp.refl | exact Sbp.nil | refine Sbp.cons (by repeat (first | exact Rem.head | apply Rem.tail)) ?_ | exact Sbp.app | refine Sbp.skip ?_)) ?_
    exact .inl ⟨if_pos rfl, gm, cm, jm, rfl, rfl, hcm, hcx⟩

set_option maxRecDepth 100000 in
theorem through_ (X Y wi he X2 Y2 wi2 he2 : Int) (A B : Option Addr) (n c n2 c2 : Nat) (ys zs : List Nat) (x3 y3 w3 h3 : Int) (C : Option Addr) (n3 c3 : Nat) (ms : List Nat) (W : World) (hn : ys.length = n) (hn2 : zs.length = n2) (hA : FS W A ys) (hB : FS W B zs) (hfr : frErr X Y wi he n = 0) (hfr2 : frErr X2 Y2 wi2 he2 n2 = 0) (hn3 : ms.length = n3) (hC : FS W C ms) : Fn_ Try.prog 54 #[.agg #[iv X, iv Y, iv wi, iv he, .slice A n c], .agg #[iv X2, iv Y2, iv wi2, iv he2, .slice B n2 c2], .agg #[iv x3, iv y3, iv w3, iv h3, .slice C n3 c3]] W (fun v H => FrR (thE (mErr x3 y3 w3 h3 n3) [X, Y, wi, he] [X2, Y2, wi2, he2] [x3, y3, w3, h3]) X Y wi he (thrV ys zs ms n) v H) := by
  obtain ⟨hr0, hn0⟩ := frErr_ok hfr
  have hro := regErr_ok hr0
  obtain ⟨hr02, hn02⟩ := frErr_ok hfr2
  refine Fn_.intro Try.func54 rfl rfl (by rfl) ?_
  refine CS.seq ?_
  refine CS.region ?_
  refine RS.box rfl (by rfl) (by rfl) ?_
  intro g3
  refine RS.box rfl (by rfl) (by rfl) ?_
  intro g4
  refine RS.box rfl (by rfl) (by rfl) ?_
  intro g5
  refine RS.alloc rfl ty26 ?_
  intro g6
  refine RS.q rfl (QO.assign) ?_
  refine RS.nil ?_
  refine thenC_n ?_
  refine CS.seq ?_
  refine CS.seq ?_
  refine CS.region ?_
  first | (refine RS.q rfl (QO.loadB ty26 (by rfl) (by repeat (first | exact List.Mem.head _ | refine List.Mem.tail _ ?_)) (by rfl)) ?_) | (refine RS.q rfl (QO.loadA ty26 (by rfl) (by repeat (first | exact List.Mem.head _ | refine List.Mem.tail _ ?_)) (by rfl) (by rfl)) ?_) | (refine RS.q rfl (QO.loadOA ty26 (by rfl) (by assumption) (by rfl)) ?_)
  first | (refine RS.q rfl (QO.loadB ty26 (by rfl) (by repeat (first | exact List.Mem.head _ | refine List.Mem.tail _ ?_)) (by rfl)) ?_) | (refine RS.q rfl (QO.loadA ty26 (by rfl) (by repeat (first | exact List.Mem.head _ | refine List.Mem.tail _ ?_)) (by rfl) (by rfl)) ?_) | (refine RS.q rfl (QO.loadOA ty26 (by rfl) (by assumption) (by rfl)) ?_)
  refine RS.buildSlice rfl Try.underlying127 ty26 (by decide) (by decide) (by rfl) (by rfl) ?_
  intro g12
  refine RS.call rfl (by rfl) ok135 (by rfl) (fun w ho => checkAll X Y X2 Y2 wi he wi2 he2 A B n n2 c c2 g12 w (fun j v hj => ho.cellAt (by repeat (first | exact List.Mem.head _ | refine List.Mem.tail _ ?_)) hj) hfr hfr2) ?_
  rintro _ _ ⟨rfl, rfl⟩
  refine RS.q rfl (QO.assign) ?_
  refine RS.nil ?_
  refine thenC_n ?_
  refine CS.seq ?_
  refine CS.region ?_
  refine RS.q rfl (QO.move) ?_
  refine RS.q rfl (QO.neq (by rfl) (by rfl)) ?_
  refine RS.nil ?_
  refine thenC_n ?_
  refine CS.condF (by rfl) rfl ?_
  refine CS.skip ?_
  refine thenC_n ?_
  refine CS.seq ?_
  refine CS.seq ?_
  refine CS.region ?_
  first | (refine RS.q rfl (QO.loadB ty64 (by rfl) (by repeat (first | exact List.Mem.head _ | refine List.Mem.tail _ ?_)) (by rfl)) ?_) | (refine RS.q rfl (QO.loadA ty64 (by rfl) (by repeat (first | exact List.Mem.head _ | refine List.Mem.tail _ ?_)) (by rfl) (by rfl)) ?_) | (refine RS.q rfl (QO.loadOA ty64 (by rfl) (by assumption) (by rfl)) ?_)
  refine RS.call rfl (by rfl) ok130 (by rfl) (fun w ho => checkMatte _ _ _ _ _ _ _ _) ?_
  rintro _ _ ⟨rfl, rfl⟩
  refine RS.q rfl (QO.assign) ?_
  refine RS.nil ?_
  refine thenC_n ?_
  refine CS.seq ?_
  refine CS.region ?_
  refine RS.q rfl (QO.move) ?_
  refine RS.q rfl (QO.neq (by rfl) (by rfl)) ?_
  refine RS.nil ?_
  refine thenC_n ?_
  refine CS.cond (by rfl) (fun hb0 => ?_) (fun hb0 => ?_)
  · have hb0p := bne_iff_ne.1 hb0
    refine CS.seq ?_
    refine CS.region ?_
    refine RS.q rfl (QO.build ty26 pl26 (by rfl)) ?_
    refine RS.q rfl (QO.move) ?_
    first | refine RS.storeB ty26 (by rfl) (by rfl) (by rfl) (by rfl) (by rfl) (by repeat (first | exact Upd.head | apply Upd.tail)) (by rfl) ?_ | refine RS.storeP ty26 (by rfl) (by rfl) (by rfl) (by rfl) (by rfl) (by repeat (first | exact Upd.head | apply Upd.tail)) (by rfl) ?_
    refine RS.q rfl (QO.assign) ?_
    refine RS.nil ?_
    refine thenC_n ?_
    refine CS.ret ?_
    refine thenC_r ?_
    refine retQ.mk (H' := []) (.inr rfl) (RVs.cellA ty26 (by rfl) (by repeat (first | exact List.Mem.head _ | refine List.Mem.tail _ ?_)) (by rfl) (RVs.tmp (by rfl) RVs.nil)) (List.nil_sublist _) ?_
    exact FrR.mkE (if_pos hb0p) hb0p
  · have hb0p := of_bne_false hb0
    refine CS.skip ?_
    refine thenC_n ?_
    refine CS.seq ?_
    refine CS.seq ?_
    refine CS.region ?_
    refine RS.q rfl (QO.fieldAddr fo26_0 (by rfl)) ?_
    first | (refine RS.q rfl (QO.loadB ty23 (by rfl) (by repeat (first | exact List.Mem.head _ | refine List.Mem.tail _ ?_)) (by rfl)) ?_) | (refine RS.q rfl (QO.loadA ty23 (by rfl) (by repeat (first | exact List.Mem.head _ | refine List.Mem.tail _ ?_)) (by rfl) (by rfl)) ?_) | (refine RS.q rfl (QO.loadOA ty23 (by rfl) (by assumption) (by rfl)) ?_)
    refine RS.q rfl (QO.fieldAddr fo26_0 (by rfl)) ?_
    first | (refine RS.q rfl (QO.loadB ty23 (by rfl) (by repeat (first | exact List.Mem.head _ | refine List.Mem.tail _ ?_)) (by rfl)) ?_) | (refine RS.q rfl (QO.loadA ty23 (by rfl) (by repeat (first | exact List.Mem.head _ | refine List.Mem.tail _ ?_)) (by rfl) (by rfl)) ?_) | (refine RS.q rfl (QO.loadOA ty23 (by rfl) (by assumption) (by rfl)) ?_)
    first | (refine RS.q rfl (QO.sneq4 eqt23 (by rfl) (by rfl)) ?_) | (refine RS.q rfl (QO.sneq eqt23 (by decide) (by rfl) (by rfl) (by rfl) (by rfl)) ?_)
    refine RS.q rfl (QO.move) ?_
    refine RS.split (dj := 29) (by rfl) (fun hb1 => ?_) (fun hb1 => ?_)
    · have hb1p := bne_iff_ne.1 hb1
      refine RS.off (dj := 29) rfl (.inl (congrArg Value.bool hb1)) (fun _ => rfl) rfl ?_
      refine RS.off (dj := 29) rfl (.inl (congrArg Value.bool hb1)) (fun _ => rfl) rfl ?_
      refine RS.off (dj := 29) rfl (.inl (congrArg Value.bool hb1)) (fun _ => rfl) rfl ?_
      refine RS.off (dj := 29) rfl (.inl (congrArg Value.bool hb1)) (fun _ => rfl) rfl ?_
      refine RS.off (dj := 29) rfl (.inl (congrArg Value.bool hb1)) (fun _ => rfl) rfl ?_
      refine RS.q rfl (QO.pickT (by rfl) hb1 (by rfl)) ?_
      refine RS.nil ?_
      refine thenC_n ?_
      refine CS.condT (by rfl) rfl ?_
      refine CS.seq ?_
      refine CS.region ?_
      refine RS.q rfl (QO.build ty26 pl26 (by rfl)) ?_
      first | refine RS.storeB ty26 (by rfl) (by rfl) (by rfl) (by rfl) (by rfl) (by repeat (first | exact Upd.head | apply Upd.tail)) (by rfl) ?_ | refine RS.storeP ty26 (by rfl) (by rfl) (by rfl) (by rfl) (by rfl) (by repeat (first | exact Upd.head | apply Upd.tail)) (by rfl) ?_
      refine RS.q rfl (QO.assign) ?_
      refine RS.nil ?_
      refine thenC_n ?_
      refine CS.ret ?_
      refine thenC_r ?_
      refine retQ.mk (H' := []) (.inr rfl) (RVs.cellA ty26 (by rfl) (by repeat (first | exact List.Mem.head _ | refine List.Mem.tail _ ?_)) (by rfl) (RVs.tmp (by rfl) RVs.nil)) (List.nil_sublist _) ?_
      exact FrR.mkE (show thE _ _ _ _ = 5 by unfold thE; rw [if_neg (by simpa using of_bne_false hb0), if_neg (fun hh => hb1p hh.1)]) (by decide)
    · have hb1p := of_bne_false hb1
      refine RS.on (dj := 29) rfl (congrArg Value.bool hb1) ?_
      refine RS.q rfl (QO.fieldAddr fo26_0 (by rfl)) ?_
      refine RS.on (dj := 29) rfl (congrArg Value.bool hb1) ?_
      first | (refine RS.q rfl (QO.loadB ty23 (by rfl) (by repeat (first | exact List.Mem.head _ | refine List.Mem.tail _ ?_)) (by rfl)) ?_) | (refine RS.q rfl (QO.loadA ty23 (by rfl) (by repeat (first | exact List.Mem.head _ | refine List.Mem.tail _ ?_)) (by rfl) (by rfl)) ?_) | (refine RS.q rfl (QO.loadOA ty23 (by rfl) (by assumption) (by rfl)) ?_)
      refine RS.on (dj := 29) rfl (congrArg Value.bool hb1) ?_
      refine RS.q rfl (QO.fieldAddr fo64_0 (by rfl)) ?_
      refine RS.on (dj := 29) rfl (congrArg Value.bool hb1) ?_
      first | (refine RS.q rfl (QO.loadB ty23 (by rfl) (by repeat (first | exact List.Mem.head _ | refine List.Mem.tail _ ?_)) (by rfl)) ?_) | (refine RS.q rfl (QO.loadA ty23 (by rfl) (by repeat (first | exact List.Mem.head _ | refine List.Mem.tail _ ?_)) (by rfl) (by rfl)) ?_) | (refine RS.q rfl (QO.loadOA ty23 (by rfl) (by assumption) (by rfl)) ?_)
      refine RS.on (dj := 29) rfl (congrArg Value.bool hb1) ?_
      first | (refine RS.q rfl (QO.sneq4 eqt23 (by rfl) (by rfl)) ?_) | (refine RS.q rfl (QO.sneq eqt23 (by decide) (by rfl) (by rfl) (by rfl) (by rfl)) ?_)
      refine RS.q rfl (QO.pickF (by rfl) hb1 (by rfl)) ?_
      refine RS.nil ?_
      refine thenC_n ?_
      refine CS.cond (by rfl) (fun hb2 => ?_) (fun hb2 => ?_)
      · have hb2p := bne_iff_ne.1 hb2
        refine CS.seq ?_
        refine CS.region ?_
        refine RS.q rfl (QO.build ty26 pl26 (by rfl)) ?_
        first | refine RS.storeB ty26 (by rfl) (by rfl) (by rfl) (by rfl) (by rfl) (by repeat (first | exact Upd.head | apply Upd.tail)) (by rfl) ?_ | refine RS.storeP ty26 (by rfl) (by rfl) (by rfl) (by rfl) (by rfl) (by repeat (first | exact Upd.head | apply Upd.tail)) (by rfl) ?_
        refine RS.q rfl (QO.assign) ?_
        refine RS.nil ?_
        refine thenC_n ?_
        refine CS.ret ?_
        refine thenC_r ?_
        refine retQ.mk (H' := []) (.inr rfl) (RVs.cellA ty26 (by rfl) (by repeat (first | exact List.Mem.head _ | refine List.Mem.tail _ ?_)) (by rfl) (RVs.tmp (by rfl) RVs.nil)) (List.nil_sublist _) ?_
        exact FrR.mkE (show thE _ _ _ _ = 5 by unfold thE; rw [if_neg (by simpa using of_bne_false hb0), if_neg (fun hh => hb2p hh.2)]) (by decide)
      · have hb2p := of_bne_false hb2
        refine CS.skip ?_
        refine thenC_n ?_
        refine CS.seq ?_
        refine CS.region ?_
        have h5 := of_bne_false hb1
        have h6 := of_bne_false hb2
        obtain ⟨f1, f2_, f3, f4_⟩ := reg_eq h6
        subst f1 f2_ f3 f4_
        have hme := mErr_zero (of_bne_false hb0)
        obtain ⟨e1, e2, e3, e4⟩ := reg_eq h5
        subst e1 e2 e3 e4
        obtain rfl : n = n2 := by omega
        refine RS.q rfl (QO.fieldAddr fo26_0 (by rfl)) ?_
        first | (refine RS.q rfl (QO.loadB ty23 (by rfl) (by repeat (first | exact List.Mem.head _ | refine List.Mem.tail _ ?_)) (by rfl)) ?_) | (refine RS.q rfl (QO.loadA ty23 (by rfl) (by repeat (first | exact List.Mem.head _ | refine List.Mem.tail _ ?_)) (by rfl) (by rfl)) ?_) | (refine RS.q rfl (QO.loadOA ty23 (by rfl) (by assumption) (by rfl)) ?_)
        refine RS.q rfl (QO.makeFunc) ?_
        refine RS.call rfl (by rfl) ok118 (by rfl) (fun w ho => each X Y wi he n 141 _ (fun i => lerpV (ys.getD i 0) (zs.getD i 0) (ms.getD (i / 4) 0)) _ hn0 (by omega) (by omega) (by omega) (by kernel_rfl) (fun wd Hd hd i hi => through1 i g3 g4 g5 X Y wi he X Y wi he X Y wi he A B C n c n c2 n3 c3 ys zs ms wd (fun j v hj => hd.old (ho.cellAt (by repeat (first | exact List.Mem.head _ | refine List.Mem.tail _ ?_)) hj)) (fun j v hj => hd.old (ho.cellAt (by repeat (first | exact List.Mem.head _ | refine List.Mem.tail _ ?_)) hj)) (fun j v hj => hd.old (ho.cellAt (by repeat (first | exact List.Mem.head _ | refine List.Mem.tail _ ?_)) hj)) hn hn2 hn3 ((hA.own ho).own hd) ((hB.own ho).own hd) ((hC.own ho).own hd) hi hi (by omega) (by omega))) ?_
        rintro _ _ ⟨ge, rfl, rfl⟩
        first | refine RS.storeB ty26 (by rfl) (by rfl) (by rfl) (by rfl) (by rfl) (by repeat (first | exact Upd.head | apply Upd.tail)) (by rfl) ?_ | refine RS.storeP ty26 (by rfl) (by rfl) (by rfl) (by rfl) (by rfl) (by repeat (first | exact Upd.head | apply Upd.tail)) (by rfl) ?_
        refine RS.q rfl (QO.assign) ?_
        refine RS.nil ?_
        refine thenC_n ?_
        refine CS.ret ?_
        refine retQ.mk (H' := [⟨ge, 33, (thrV ys zs ms n).map flt⟩]) (.inr rfl) (RVs.cellA ty26 (by rfl) (by repeat (first | exact List.Mem.head _ | refine List.Mem.tail _ ?_)) (by rfl) (RVs.tmp (by rfl) RVs.nil)) (by repeat (first | exact List.Sublist.refl _ | exact List.nil_sublist _ | refine List.Sublist.cons_cons _ ?_ | refine List.Sublist.cons _ ?_ | exact Sbp.refl | exact Sbp.nil | refine Sbp.cons (by repeat (first | exact Rem.head | apply Rem.tail)) ?_ | exact Sbp.app | refine Sbp.skip ?_)) ?_
        exact FrR.mk0 (by simp [thrV]) (by unfold maxLen; omega) (show thE _ _ _ _ = 0 by unfold thE; rw [if_neg (by simpa using of_bne_false hb0), if_pos ⟨rfl, rfl⟩])

set_option maxRecDepth 100000 in
theorem rthrough (X Y wi he X2 Y2 wi2 he2 : Int) (A B : Option Addr) (n c n2 c2 m : Nat) (ys zs : List Nat) (x3 y3 w3 h3 : Int) (C : Option Addr) (n3 c3 : Nat) (ms : List Nat) (W : World) (hn : ys.length = n) (hn2 : zs.length = n2) (hA : FS W A ys) (hB : FS W B zs) (hfr : frErr X Y wi he n = 0) (hfr2 : frErr X2 Y2 wi2 he2 n2 = 0) (hn3 : ms.length = n3) (hC : FS W C ms) (hm : n = 4 * m) (hc : n ≤ c) (hme0 : mErr x3 y3 w3 h3 n3 = 0) : Fn_ Try.prog 55 #[.agg #[iv X, iv Y, iv wi, iv he, .slice A n c], .agg #[iv X2, iv Y2, iv wi2, iv he2, .slice B n2 c2], .agg #[iv x3, iv y3, iv w3, iv h3, .slice C n3 c3]] W (fun v H => FrR (thE (mErr x3 y3 w3 h3 n3) [X, Y, wi, he] [X2, Y2, wi2, he2] [x3, y3, w3, h3]) X Y wi he (thrV ys zs ms n) v H) := by
  obtain ⟨hr0, hn0⟩ := frErr_ok hfr
  have hro := regErr_ok hr0
  obtain ⟨hr02, hn02⟩ := frErr_ok hfr2
  refine Fn_.intro Try.func55 rfl rfl (by rfl) ?_
  refine CS.seq ?_
  refine CS.region ?_
  refine RS.box rfl (by rfl) (by rfl) ?_
  intro g3
  refine RS.box rfl (by rfl) (by rfl) ?_
  intro g4
  refine RS.box rfl (by rfl) (by rfl) ?_
  intro g5
  refine RS.alloc rfl ty26 ?_
  intro g6
  refine RS.q rfl (QO.assign) ?_
  refine RS.nil ?_
  refine thenC_n ?_
  refine CS.seq ?_
  refine CS.seq ?_
  refine CS.region ?_
  refine RS.q rfl (QO.fieldAddr fo26_0 (by rfl)) ?_
  first | (refine RS.q rfl (QO.loadB ty23 (by rfl) (by repeat (first | exact List.Mem.head _ | refine List.Mem.tail _ ?_)) (by rfl)) ?_) | (refine RS.q rfl (QO.loadA ty23 (by rfl) (by repeat (first | exact List.Mem.head _ | refine List.Mem.tail _ ?_)) (by rfl) (by rfl)) ?_) | (refine RS.q rfl (QO.loadOA ty23 (by rfl) (by assumption) (by rfl)) ?_)
  refine RS.q rfl (QO.fieldAddr fo26_0 (by rfl)) ?_
  first | (refine RS.q rfl (QO.loadB ty23 (by rfl) (by repeat (first | exact List.Mem.head _ | refine List.Mem.tail _ ?_)) (by rfl)) ?_) | (refine RS.q rfl (QO.loadA ty23 (by rfl) (by repeat (first | exact List.Mem.head _ | refine List.Mem.tail _ ?_)) (by rfl) (by rfl)) ?_) | (refine RS.q rfl (QO.loadOA ty23 (by rfl) (by assumption) (by rfl)) ?_)
  first | (refine RS.q rfl (QO.sneq4 eqt23 (by rfl) (by rfl)) ?_) | (refine RS.q rfl (QO.sneq eqt23 (by decide) (by rfl) (by rfl) (by rfl) (by rfl)) ?_)
  refine RS.q rfl (QO.move) ?_
  refine RS.split (dj := 13) (by rfl) (fun hb0 => ?_) (fun hb0 => ?_)
  · have hb0p := bne_iff_ne.1 hb0
    refine RS.off (dj := 13) rfl (.inl (congrArg Value.bool hb0)) (fun _ => rfl) rfl ?_
    refine RS.off (dj := 13) rfl (.inl (congrArg Value.bool hb0)) (fun _ => rfl) rfl ?_
    refine RS.off (dj := 13) rfl (.inl (congrArg Value.bool hb0)) (fun _ => rfl) rfl ?_
    refine RS.off (dj := 13) rfl (.inl (congrArg Value.bool hb0)) (fun _ => rfl) rfl ?_
    refine RS.off (dj := 13) rfl (.inl (congrArg Value.bool hb0)) (fun _ => rfl) rfl ?_
    refine RS.q rfl (QO.pickT (by rfl) hb0 (by rfl)) ?_
    refine RS.nil ?_
    refine thenC_n ?_
    refine CS.condT (by rfl) rfl ?_
    refine CS.seq ?_
    refine CS.region ?_
    refine RS.q rfl (QO.build ty26 pl26 (by rfl)) ?_
    first | refine RS.storeB ty26 (by rfl) (by rfl) (by rfl) (by rfl) (by rfl) (by repeat (first | exact Upd.head | apply Upd.tail)) (by rfl) ?_ | refine RS.storeP ty26 (by rfl) (by rfl) (by rfl) (by rfl) (by rfl) (by repeat (first | exact Upd.head | apply Upd.tail)) (by rfl) ?_
    refine RS.q rfl (QO.assign) ?_
    refine RS.nil ?_
    refine thenC_n ?_
    refine CS.ret ?_
    refine thenC_r ?_
    refine retQ.mk (H' := []) (.inr rfl) (RVs.cellA ty26 (by rfl) (by repeat (first | exact List.Mem.head _ | refine List.Mem.tail _ ?_)) (by rfl) (RVs.tmp (by rfl) RVs.nil)) (List.nil_sublist _) ?_
    exact FrR.mkE (show thE _ _ _ _ = 5 by unfold thE; rw [if_neg (by simpa using hme0), if_neg (fun hh => hb0p hh.1)]) (by decide)
  · have hb0p := of_bne_false hb0
    refine RS.on (dj := 13) rfl (congrArg Value.bool hb0) ?_
    refine RS.q rfl (QO.fieldAddr fo26_0 (by rfl)) ?_
    refine RS.on (dj := 13) rfl (congrArg Value.bool hb0) ?_
    first | (refine RS.q rfl (QO.loadB ty23 (by rfl) (by repeat (first | exact List.Mem.head _ | refine List.Mem.tail _ ?_)) (by rfl)) ?_) | (refine RS.q rfl (QO.loadA ty23 (by rfl) (by repeat (first | exact List.Mem.head _ | refine List.Mem.tail _ ?_)) (by rfl) (by rfl)) ?_) | (refine RS.q rfl (QO.loadOA ty23 (by rfl) (by assumption) (by rfl)) ?_)
    refine RS.on (dj := 13) rfl (congrArg Value.bool hb0) ?_
    refine RS.q rfl (QO.fieldAddr fo64_0 (by rfl)) ?_
    refine RS.on (dj := 13) rfl (congrArg Value.bool hb0) ?_
    first | (refine RS.q rfl (QO.loadB ty23 (by rfl) (by repeat (first | exact List.Mem.head _ | refine List.Mem.tail _ ?_)) (by rfl)) ?_) | (refine RS.q rfl (QO.loadA ty23 (by rfl) (by repeat (first | exact List.Mem.head _ | refine List.Mem.tail _ ?_)) (by rfl) (by rfl)) ?_) | (refine RS.q rfl (QO.loadOA ty23 (by rfl) (by assumption) (by rfl)) ?_)
    refine RS.on (dj := 13) rfl (congrArg Value.bool hb0) ?_
    first | (refine RS.q rfl (QO.sneq4 eqt23 (by rfl) (by rfl)) ?_) | (refine RS.q rfl (QO.sneq eqt23 (by decide) (by rfl) (by rfl) (by rfl) (by rfl)) ?_)
    refine RS.q rfl (QO.pickF (by rfl) hb0 (by rfl)) ?_
    refine RS.nil ?_
    refine thenC_n ?_
    refine CS.cond (by rfl) (fun hb1 => ?_) (fun hb1 => ?_)
    · have hb1p := bne_iff_ne.1 hb1
      refine CS.seq ?_
      refine CS.region ?_
      refine RS.q rfl (QO.build ty26 pl26 (by rfl)) ?_
      first | refine RS.storeB ty26 (by rfl) (by rfl) (by rfl) (by rfl) (by rfl) (by repeat (first | exact Upd.head | apply Upd.tail)) (by rfl) ?_ | refine RS.storeP ty26 (by rfl) (by rfl) (by rfl) (by rfl) (by rfl) (by repeat (first | exact Upd.head | apply Upd.tail)) (by rfl) ?_
      refine RS.q rfl (QO.assign) ?_
      refine RS.nil ?_
      refine thenC_n ?_
      refine CS.ret ?_
      refine thenC_r ?_
      refine retQ.mk (H' := []) (.inr rfl) (RVs.cellA ty26 (by rfl) (by repeat (first | exact List.Mem.head _ | refine List.Mem.tail _ ?_)) (by rfl) (RVs.tmp (by rfl) RVs.nil)) (List.nil_sublist _) ?_
      exact FrR.mkE (show thE _ _ _ _ = 5 by unfold thE; rw [if_neg (by simpa using hme0), if_neg (fun hh => hb1p hh.2)]) (by decide)
    · have hb1p := of_bne_false hb1
      refine CS.skip ?_
      refine thenC_n ?_
      refine CS.seq ?_
      refine CS.region ?_
      have h5 := of_bne_false hb0
      have h6 := of_bne_false hb1
      obtain ⟨f1, f2_, f3, f4_⟩ := reg_eq h6
      subst f1 f2_ f3 f4_
      have hme := mErr_zero hme0
      obtain ⟨e1, e2, e3, e4⟩ := reg_eq h5
      subst e1 e2 e3 e4
      obtain rfl : n = n2 := by omega
      first | (refine RS.q rfl (QO.loadB ty26 (by rfl) (by repeat (first | exact List.Mem.head _ | refine List.Mem.tail _ ?_)) (by rfl)) ?_) | (refine RS.q rfl (QO.loadA ty26 (by rfl) (by repeat (first | exact List.Mem.head _ | refine List.Mem.tail _ ?_)) (by rfl) (by rfl)) ?_) | (refine RS.q rfl (QO.loadOA ty26 (by rfl) (by assumption) (by rfl)) ?_)
      first | (refine RS.q rfl (QO.loadB ty26 (by rfl) (by repeat (first | exact List.Mem.head _ | refine List.Mem.tail _ ?_)) (by rfl)) ?_) | (refine RS.q rfl (QO.loadA ty26 (by rfl) (by repeat (first | exact List.Mem.head _ | refine List.Mem.tail _ ?_)) (by rfl) (by rfl)) ?_) | (refine RS.q rfl (QO.loadOA ty26 (by rfl) (by assumption) (by rfl)) ?_)
      refine RS.q rfl (QO.makeFunc) ?_
      refine RS.call rfl (by rfl) ok138 (by rfl) (fun w ho => both X Y wi he X Y wi he A B n c n c2 m ys zs 142 _ (fun i => lerpV (ys.getD i 0) (zs.getD i 0) (ms.getD (i / 4) 0)) _ hn (hA.own ho) hn2 (hB.own ho) hm hm (by omega) (by omega) hc (by kernel_rfl) (fun wd Hd hd i hi q => rthrough1 _ _ q (i / 4) g5 X Y wi he C n3 c3 ms wd (fun j v hj => hd.old (ho.cellAt (by repeat (first | exact List.Mem.head _ | refine List.Mem.tail _ ?_)) hj)) hn3 ((hC.own ho).own hd) (by omega))) ?_
      intro v24 H24 h24
      obtain ⟨gm, cm, jm, rfl, rfl, hcm, hcx⟩ := h24
      first | refine RS.storeB ty26 (by rfl) (by rfl) (by rfl) (by rfl) (by rfl) (by repeat (first | exact Upd.head | apply Upd.tail)) (by rfl) ?_ | refine RS.storeP ty26 (by rfl) (by rfl) (by rfl) (by rfl) (by rfl) (by repeat (first | exact Upd.head | apply Upd.tail)) (by rfl) ?_
      refine RS.q rfl (QO.assign) ?_
      refine RS.nil ?_
      refine thenC_n ?_
      refine CS.ret ?_
      refine retQ.mk (H' := [⟨gm, 33, (thrV ys zs ms n).map flt ++ jm⟩]) (.inr rfl) (RVs.cellA ty26 (by rfl) (by repeat (first | exact List.Mem.head _ | refine List.Mem.tail _ ?_)) (by rfl) (RVs.tmp (by rfl) RVs.nil)) (by repeat (first | exact List.Sublist.refl _ | exact List.nil_sublist _ | refine List.Sublist.cons_cons _ ?_ | refine List.Sublist.cons _ ?_ | exact Sbp.refl | exact Sbp.nil | refine Sbp.cons (by repeat (first | exact Rem.head | apply Rem.tail)) ?_ | exact Sbp.app | refine Sbp.skip ?_)) ?_
      exact .inl ⟨show thE _ _ _ _ = 0 by unfold thE; rw [if_neg (by simpa using hme0), if_pos ⟨rfl, rfl⟩], gm, cm, jm, rfl, rfl, hcm, hcx⟩

/-- a matte brought to a region -/
def mofF (ms : List Nat) (i : Nat) : Nat := if 0 < ms.length then ms.getD (i % ms.length) 0 else 0
theorem partL_skip (f : Nat → Nat) (N k : Nat) (h : f k = 0) : partL f N k = partL f N (k + 1) := by
  unfold partL
  apply List.map_congr_left
  intro i _
  by_cases e : i = k
  · subst e; simp [h]
  · have : (i < k ↔ i < k + 1) := by omega
    simp [this]

set_option maxRecDepth 100000 in
theorem matteOf (x3 y3 w3 h3 : Int) (C : Option Addr) (n3 c3 : Nat) (ms : List Nat) (rx ry rw_ rh : Int) (M : Nat) (W : World) (hn3 : ms.length = n3) (hC : FS W C ms) (hlx : n3 ≤ maxLen) (hM : (M : Int) = rw_ * rh) (hMx : M ≤ 1000000) : Fn_ Try.prog 56 #[.agg #[iv x3, iv y3, iv w3, iv h3, .slice C n3 c3], .agg #[iv rx, iv ry, iv rw_, iv rh]] W (fun v H => ∃ g, v = .agg #[iv rx, iv ry, iv rw_, iv rh, .slice (some ⟨g, 0, none⟩) M M] ∧ H = [⟨g, 33, ((List.range M).map (mofF ms)).map flt⟩]) := by
  subst hn3
  unfold maxLen at hlx
  refine Fn_.intro Try.func56 rfl rfl (by rfl) ?_
  refine CS.seq ?_
  refine CS.region ?_
  refine RS.box rfl (by rfl) (by rfl) ?_
  intro g2
  refine RS.box rfl (by rfl) (by rfl) ?_
  intro g3
  refine RS.alloc rfl ty64 ?_
  intro g4
  refine RS.nil ?_
  refine thenC_n ?_
  refine CS.seq ?_
  refine CS.draw 9 rfl (by kernel_rfl) (by kernel_rfl) ?_
  first | (refine RT.take (i := 0) rfl (by kernel_rfl) rfl (QO.loadB ty23 (by rfl) (by repeat (first | exact List.Mem.head _ | refine List.Mem.tail _ ?_)) (by rfl)) ?_) | (refine RT.take (i := 0) rfl (by kernel_rfl) rfl (QO.loadA ty23 (by rfl) (by repeat (first | exact List.Mem.head _ | refine List.Mem.tail _ ?_)) (by rfl) (by rfl)) ?_) | (refine RT.take (i := 0) rfl (by kernel_rfl) rfl (QO.loadOA ty23 (by rfl) (by assumption) (by rfl)) ?_)
  refine RT.take (i := 1) rfl (by kernel_rfl) rfl (QO.fieldAddr fo23_2 (by rfl)) ?_
  first | (refine RT.take (i := 2) rfl (by kernel_rfl) rfl (QO.load ty3 (by rfl) (by repeat (first | exact List.Mem.head _ | refine List.Mem.tail _ ?_)) (by rfl)) ?_) | (refine RT.take (i := 2) rfl (by kernel_rfl) rfl (QO.loadO ty3 (by rfl) (by assumption)) ?_) | (refine RT.take (i := 2) rfl (by kernel_rfl) rfl (QO.load ty3 (by rfl) (by repeat (first | exact List.Mem.head _ | refine List.Mem.tail _ ?_)) (by assumption)) ?_)
  refine RT.take (i := 3) rfl (by kernel_rfl) rfl (QO.fieldAddr fo23_3 (by rfl)) ?_
  first | (refine RT.take (i := 4) rfl (by kernel_rfl) rfl (QO.load ty3 (by rfl) (by repeat (first | exact List.Mem.head _ | refine List.Mem.tail _ ?_)) (by rfl)) ?_) | (refine RT.take (i := 4) rfl (by kernel_rfl) rfl (QO.loadO ty3 (by rfl) (by assumption)) ?_) | (refine RT.take (i := 4) rfl (by kernel_rfl) rfl (QO.load ty3 (by rfl) (by repeat (first | exact List.Mem.head _ | refine List.Mem.tail _ ?_)) (by assumption)) ?_)
  first | (refine RT.takev (i := 5) rfl (by kernel_rfl) rfl (QO.mul (by rfl) (by rfl) (by omega) (by omega)) (congrArg iv hM.symm) ?_) | (refine RT.takev (i := 5) rfl (by kernel_rfl) rfl (QO.ibin (by rfl) (by rfl) trivial) (congrArg iv hM.symm) ?_)
  refine RT.two (i := 6) (j := 8) (by kernel_rfl) rfl rfl ?_ ?_
  · refine RS.make rfl Try.underlying24 ty33 (by rfl) (by rfl) (by omega) (by omega) (by omega) (by omega) ?_
    intro g13
    refine RS.nil ⟨(by repeat (first | exact List.Sublist.refl _ | exact List.nil_sublist _ | refine List.Sublist.cons_cons _ ?_ | refine List.Sublist.cons _ ?_ | exact Sbp.refl | exact Sbp.nil | refine Sbp.cons (by repeat (first | exact Rem.head | apply Rem.tail)) ?_ | exact Sbp.app | refine Sbp.skip ?_)), ?_⟩
    refine RT.take (i := 7) rfl (by kernel_rfl) rfl (QO.build ty64 pl64 (by rfl)) ?_
    refine RT.one (i := 8) (by kernel_rfl) rfl rfl ?_
    refine RS.alloc rfl ty64 ?_
    intro g5
    refine RS.nil ⟨(by repeat (first | exact List.Sublist.refl _ | exact List.nil_sublist _ | refine List.Sublist.cons_cons _ ?_ | refine List.Sublist.cons _ ?_ | exact Sbp.refl | exact Sbp.nil | refine Sbp.cons (by repeat (first | exact Rem.head | apply Rem.tail)) ?_ | exact Sbp.app | refine Sbp.skip ?_)), ?_⟩
    refine RT.tail (i := 9) (by kernel_rfl) rfl rfl ?_
    first | refine RS.storeB ty64 (by rfl) (by rfl) (by rfl) (by rfl) (by rfl) (by repeat (first | exact Upd.head | apply Upd.tail)) (by rfl) ?_ | refine RS.storeP ty64 (by rfl) (by rfl) (by rfl) (by rfl) (by rfl) (by repeat (first | exact Upd.head | apply Upd.tail)) (by rfl) ?_
    refine RS.nil ?_
    refine RT.done (by kernel_rfl) ?_
    refine thenC_n ?_
    refine CS.seq ?_
    refine CS.seq ?_
    refine CS.region ?_
    refine RS.q rfl (QO.fieldAddr fo64_1 (by rfl)) ?_
    first | (refine RS.q rfl (QO.load ty24 (by rfl) (by repeat (first | exact List.Mem.head _ | refine List.Mem.tail _ ?_)) (by rfl)) ?_) | (refine RS.q rfl (QO.loadO ty24 (by rfl) (by assumption)) ?_) | (refine RS.q rfl (QO.load ty24 (by rfl) (by repeat (first | exact List.Mem.head _ | refine List.Mem.tail _ ?_)) (by assumption)) ?_)
    refine RS.q rfl (QO.lenS Try.underlying24 (by rfl)) ?_
    refine RS.q rfl (QO.move) ?_
    refine RS.nil ?_
    refine thenC_n ?_
    refine CS.block ?_
    refine CS.loop (X := Nat) (6 :: 18 :: 19 :: 20 :: 21 :: 22 :: 23 :: 24 :: 25 :: 26 :: 27 :: 28 :: 29 :: 30 :: 31 :: 32 :: 33 :: 34 :: 35 :: 36 :: 37 :: 38 :: []) (fun k => [(18, iv (k : Int))]) (fun k => [⟨g5, 64, [iv rx, iv ry, iv rw_, iv rh, .slice (some ⟨g13, 0, none⟩) M M]⟩, ⟨g13, 33, partL (mofF ms) M k⟩, ⟨g4, 64, [iv 0, iv 0, iv 0, iv 0, .slice none 0 0]⟩, ⟨g2, 64, [iv x3, iv y3, iv w3, iv h3, .slice C ms.length c3]⟩]) (fun k => k ≤ M) (fun k => M - k) 0 (Nat.zero_le _) ?_ ?_ ?_
    · exact (by repeat (first | exact kn_nil | refine kn_cons (by rfl) ?_))
    · exact (by rw [partL_zero]; exact (by repeat (first | exact List.Sublist.refl _ | exact List.nil_sublist _ | refine List.Sublist.cons_cons _ ?_ | refine List.Sublist.cons _ ?_ | exact Sbp.refl | exact Sbp.nil | refine Sbp.cons (by repeat (first | exact Rem.head | apply Rem.tail)) ?_ | exact Sbp.app | refine Sbp.skip ?_)))
    · intro k gj3 hz
      refine CS.seq ?_
      refine CS.region ?_
      refine RS.q rfl (QO.lss (by rfl) (by rfl)) ?_
      refine RS.nil ?_
      refine thenC_n ?_
      refine CS.seq ?_
      refine CS.cond (by rfl) (fun hb0 => ?_) (fun hb0 => ?_)
      · have hb0p := of_decide_eq_true hb0
        refine CS.skip ?_
        refine thenC_n ?_
        refine CS.seq ?_
        refine CS.block ?_
        refine CS.seq ?_
        refine CS.region ?_
        refine RS.q rfl (QO.move) ?_
        refine RS.q rfl (QO.assign) ?_
        refine RS.nil ?_
        refine thenC_n ?_
        refine CS.seq ?_
        refine CS.region ?_
        refine RS.q rfl (QO.fieldAddr fo64_1 (by rfl)) ?_
        first | (refine RS.q rfl (QO.load ty24 (by rfl) (by repeat (first | exact List.Mem.head _ | refine List.Mem.tail _ ?_)) (by rfl)) ?_) | (refine RS.q rfl (QO.loadO ty24 (by rfl) (by assumption)) ?_) | (refine RS.q rfl (QO.load ty24 (by rfl) (by repeat (first | exact List.Mem.head _ | refine List.Mem.tail _ ?_)) (by assumption)) ?_)
        refine RS.q rfl (QO.lenS Try.underlying24 (by rfl)) ?_
        refine RS.q rfl (QO.gtr (by rfl) (by rfl)) ?_
        refine RS.nil ?_
        refine thenC_n ?_
        refine CS.cond (by rfl) (fun hb1 => ?_) (fun hb1 => ?_)
        · have hb1p := of_decide_eq_true hb1
          refine CS.draw 13 rfl (by kernel_rfl) (by kernel_rfl) ?_
          refine RT.take (i := 0) rfl (by kernel_rfl) rfl (QO.fieldAddr fo64_1 (by rfl)) ?_
          first | (refine RT.take (i := 1) rfl (by kernel_rfl) rfl (QO.load ty24 (by rfl) (by repeat (first | exact List.Mem.head _ | refine List.Mem.tail _ ?_)) (by rfl)) ?_) | (refine RT.take (i := 1) rfl (by kernel_rfl) rfl (QO.loadO ty24 (by rfl) (by assumption)) ?_) | (refine RT.take (i := 1) rfl (by kernel_rfl) rfl (QO.load ty24 (by rfl) (by repeat (first | exact List.Mem.head _ | refine List.Mem.tail _ ?_)) (by assumption)) ?_)
          refine RT.take (i := 2) rfl (by kernel_rfl) rfl (QO.move) ?_
          refine RT.take (i := 3) rfl (by kernel_rfl) rfl (QO.fieldAddr fo64_1 (by rfl)) ?_
          first | (refine RT.take (i := 4) rfl (by kernel_rfl) rfl (QO.load ty24 (by rfl) (by repeat (first | exact List.Mem.head _ | refine List.Mem.tail _ ?_)) (by rfl)) ?_) | (refine RT.take (i := 4) rfl (by kernel_rfl) rfl (QO.loadO ty24 (by rfl) (by assumption)) ?_) | (refine RT.take (i := 4) rfl (by kernel_rfl) rfl (QO.load ty24 (by rfl) (by repeat (first | exact List.Mem.head _ | refine List.Mem.tail _ ?_)) (by assumption)) ?_)
          refine RT.take (i := 5) rfl (by kernel_rfl) rfl (QO.move) ?_
          refine RT.take (i := 6) rfl (by kernel_rfl) rfl (QO.fieldAddr fo64_1 (by rfl)) ?_
          first | (refine RT.take (i := 7) rfl (by kernel_rfl) rfl (QO.load ty24 (by rfl) (by repeat (first | exact List.Mem.head _ | refine List.Mem.tail _ ?_)) (by rfl)) ?_) | (refine RT.take (i := 7) rfl (by kernel_rfl) rfl (QO.loadO ty24 (by rfl) (by assumption)) ?_) | (refine RT.take (i := 7) rfl (by kernel_rfl) rfl (QO.load ty24 (by rfl) (by repeat (first | exact List.Mem.head _ | refine List.Mem.tail _ ?_)) (by assumption)) ?_)
          refine RT.take (i := 8) rfl (by kernel_rfl) rfl (QO.lenS Try.underlying24 (by rfl)) ?_
          obtain ⟨bC, oC, rfl, hcC⟩ := hC.at_ (k % ms.length) (Nat.mod_lt _ (by omega))
          have hlt : k % ms.length < ms.length := Nat.mod_lt _ (by omega)
          refine RT.takev (i := 9) rfl (by kernel_rfl) rfl (QO.rem (by rfl) (by rfl) (by omega)) (congrArg iv (tmod_cast k ms.length)) ?_
          first | (refine RT.take (i := 10) rfl (by kernel_rfl) rfl (QO.idx0 Try.underlying24 ty33 (by rfl) (by rfl) (by rfl) (by omega)) ?_) | (refine RT.take (i := 10) rfl (by kernel_rfl) rfl (QO.idxn Try.underlying24 ty33 (by rfl) (by rfl) (by rfl) (by omega)) ?_) | (refine RT.take (i := 10) rfl (by kernel_rfl) rfl (QO.idx1 Try.underlying24 ty33 (by rfl) (by rfl) (by omega) (by omega)) ?_)
          refine RT.take (i := 11) rfl (by kernel_rfl) rfl (QO.loadO ty33 (by rfl) hcC) ?_
          first | (refine RT.take (i := 12) rfl (by kernel_rfl) rfl (QO.idx0 Try.underlying24 ty33 (by rfl) (by rfl) (by rfl) (by omega)) ?_) | (refine RT.take (i := 12) rfl (by kernel_rfl) rfl (QO.idxn Try.underlying24 ty33 (by rfl) (by rfl) (by rfl) (by omega)) ?_) | (refine RT.take (i := 12) rfl (by kernel_rfl) rfl (QO.idx1 Try.underlying24 ty33 (by rfl) (by rfl) (by omega) (by omega)) ?_)
          refine RT.tail (i := 13) (by kernel_rfl) rfl rfl ?_
          refine RS.store1e ty33 rfl (by rfl) (by rfl) (by rfl) (partL_set (mofF ms) M k _ (by unfold mofF; rw [if_pos (by omega)]) (by omega)) (by repeat (first | exact Upd.head | apply Upd.tail)) (by rw [partL_len]; omega) ?_
          refine RS.nil ?_
          refine RT.done (by kernel_rfl) ?_
          refine blockC_n ?_
          refine thenC_n ?_
          refine CS.region ?_
          first | (refine RS.q rfl (QO.add (by rfl) (by rfl) (by omega) (by omega)) ?_) | (refine RS.q rfl (QO.ibin (by rfl) (by rfl) trivial) ?_)
          refine RS.q rfl (QO.move) ?_
          refine RS.nil ?_
          refine loopQ_n (by intro t ht; repeat (first | with_reducible exact rfl | exact frame_puts ht (frame_mix ht) _ rfl | (refine frame_put rfl ht ?_) | (refine frame_puts ht ?_ _ rfl) | exact frame_mix ht | (refine frame_mix2 rfl ht ?_) | exact rfl)) ?_
          exact ⟨k + 1, by omega, by omega, (by repeat (first | exact kn_nil | refine kn_cons (by rfl) ?_)), (by repeat (first | exact List.Sublist.refl _ | exact List.nil_sublist _ | refine List.Sublist.cons_cons _ ?_ | refine List.Sublist.cons _ ?_ | exact Sbp.refl | exact Sbp.nil | refine Sbp.cons (by repeat (first | exact Rem.head | apply Rem.tail)) ?_ | exact Sbp.app | refine Sbp.skip ?_))⟩
        · have hb1p := of_decide_eq_false hb1
          refine CS.skip ?_
          refine blockC_n ?_
          refine thenC_n ?_
          refine CS.region ?_
          first | (refine RS.q rfl (QO.add (by rfl) (by rfl) (by omega) (by omega)) ?_) | (refine RS.q rfl (QO.ibin (by rfl) (by rfl) trivial) ?_)
          refine RS.q rfl (QO.move) ?_
          refine RS.nil ?_
          refine loopQ_n (by intro t ht; repeat (first | with_reducible exact rfl | exact frame_puts ht (frame_mix ht) _ rfl | (refine frame_put rfl ht ?_) | (refine frame_puts ht ?_ _ rfl) | exact frame_mix ht | (refine frame_mix2 rfl ht ?_) | exact rfl)) ?_
          exact ⟨k + 1, by omega, by omega, (by repeat (first | exact kn_nil | refine kn_cons (by rfl) ?_)), (by rw [← partL_skip (mofF ms) M k (by unfold mofF; rw [if_neg (by omega)])]; exact (by repeat (first | exact List.Sublist.refl _ | exact List.nil_sublist _ | refine List.Sublist.cons_cons _ ?_ | refine List.Sublist.cons _ ?_ | exact Sbp.refl | exact Sbp.nil | refine Sbp.cons (by repeat (first | exact Rem.head | apply Rem.tail)) ?_ | exact Sbp.app | refine Sbp.skip ?_)))⟩
      · have hb0p := of_decide_eq_false hb0
        refine CS.exit ?_
        refine thenC_x ?_
        refine loopQ_x ?_
        refine blockC_x ?_
        refine thenC_n ?_
        refine CS.seq ?_
        refine CS.region ?_
        first | (refine RS.q rfl (QO.loadB ty64 (by rfl) (by repeat (first | exact List.Mem.head _ | refine List.Mem.tail _ ?_)) (by rfl)) ?_) | (refine RS.q rfl (QO.loadA ty64 (by rfl) (by repeat (first | exact List.Mem.head _ | refine List.Mem.tail _ ?_)) (by rfl) (by rfl)) ?_) | (refine RS.q rfl (QO.loadOA ty64 (by rfl) (by assumption) (by rfl)) ?_)
        first | refine RS.storeB ty64 (by rfl) (by rfl) (by rfl) (by rfl) (by rfl) (by repeat (first | exact Upd.head | apply Upd.tail)) (by rfl) ?_ | refine RS.storeP ty64 (by rfl) (by rfl) (by rfl) (by rfl) (by rfl) (by repeat (first | exact Upd.head | apply Upd.tail)) (by rfl) ?_
        refine RS.nil ?_
        refine thenC_n ?_
        refine CS.ret ?_
        refine retQ.mk (H' := [⟨g13, 33, ((List.range M).map (mofF ms)).map flt⟩]) (.inr rfl) (RVs.cellA ty64 (by rfl) (by repeat (first | exact List.Mem.head _ | refine List.Mem.tail _ ?_)) (by rfl) RVs.nil) (by obtain rfl : k = M := (by omega); rw [partL_full]; exact (by repeat (first | exact List.Sublist.refl _ | exact List.nil_sublist _ | refine List.Sublist.cons_cons _ ?_ | refine List.Sublist.cons _ ?_ | exact Sbp.refl | exact Sbp.nil | refine Sbp.cons (by repeat (first | exact Rem.head | apply Rem.tail)) ?_ | exact Sbp.app | refine Sbp.skip ?_))) ?_
        exact ⟨g13, rfl, rfl⟩
  · refine RS.alloc rfl ty64 ?_
    intro g5
    refine RS.nil ⟨(by repeat (first | exact List.Sublist.refl _ | exact List.nil_sublist _ | refine List.Sublist.cons_cons _ ?_ | refine List.Sublist.cons _ ?_ | exact Sbp.refl | exact Sbp.nil | refine Sbp.cons (by repeat (first | exact Rem.head | apply Rem.tail)) ?_ | exact Sbp.app | refine Sbp.skip ?_)), ?_⟩
    refine RT.one (i := 6) (by kernel_rfl) rfl rfl ?_
    refine RS.make rfl Try.underlying24 ty33 (by rfl) (by rfl) (by omega) (by omega) (by omega) (by omega) ?_
    intro g13
    refine RS.nil ⟨(by repeat (first | exact List.Sublist.refl _ | exact List.nil_sublist _ | refine List.Sublist.cons_cons _ ?_ | refine List.Sublist.cons _ ?_ | exact Sbp.refl | exact Sbp.nil | refine Sbp.cons (by repeat (first | exact Rem.head | apply Rem.tail)) ?_ | exact Sbp.app | refine Sbp.skip ?_)), ?_⟩
    refine RT.take (i := 7) rfl (by kernel_rfl) rfl (QO.build ty64 pl64 (by rfl)) ?_
    refine RT.tail (i := 9) (by kernel_rfl) rfl rfl ?_
    first | refine RS.storeB ty64 (by rfl) (by rfl) (by rfl) (by rfl) (by rfl) (by repeat (first | exact Upd.head | apply Upd.tail)) (by rfl) ?_ | refine RS.storeP ty64 (by rfl) (by rfl) (by rfl) (by rfl) (by rfl) (by repeat (first | exact Upd.head | apply Upd.tail)) (by rfl) ?_
    refine RS.nil ?_
    refine RT.done (by kernel_rfl) ?_
    refine thenC_n ?_
    refine CS.seq ?_
    refine CS.seq ?_
    refine CS.region ?_
    refine RS.q rfl (QO.fieldAddr fo64_1 (by rfl)) ?_
    first | (refine RS.q rfl (QO.load ty24 (by rfl) (by repeat (first | exact List.Mem.head _ | refine List.Mem.tail _ ?_)) (by rfl)) ?_) | (refine RS.q rfl (QO.loadO ty24 (by rfl) (by assumption)) ?_) | (refine RS.q rfl (QO.load ty24 (by rfl) (by repeat (first | exact List.Mem.head _ | refine List.Mem.tail _ ?_)) (by assumption)) ?_)
    refine RS.q rfl (QO.lenS Try.underlying24 (by rfl)) ?_
    refine RS.q rfl (QO.move) ?_
    refine RS.nil ?_
    refine thenC_n ?_
    refine CS.block ?_
    refine CS.loop (X := Nat) (6 :: 18 :: 19 :: 20 :: 21 :: 22 :: 23 :: 24 :: 25 :: 26 :: 27 :: 28 :: 29 :: 30 :: 31 :: 32 :: 33 :: 34 :: 35 :: 36 :: 37 :: 38 :: []) (fun k => [(18, iv (k : Int))]) (fun k => [⟨g5, 64, [iv rx, iv ry, iv rw_, iv rh, .slice (some ⟨g13, 0, none⟩) M M]⟩, ⟨g13, 33, partL (mofF ms) M k⟩, ⟨g4, 64, [iv 0, iv 0, iv 0, iv 0, .slice none 0 0]⟩, ⟨g2, 64, [iv x3, iv y3, iv w3, iv h3, .slice C ms.length c3]⟩]) (fun k => k ≤ M) (fun k => M - k) 0 (Nat.zero_le _) ?_ ?_ ?_
    · exact (by repeat (first | exact kn_nil | refine kn_cons (by rfl) ?_))
    · exact (by rw [partL_zero]; exact (by repeat (first | exact List.Sublist.refl _ | exact List.nil_sublist _ | refine List.Sublist.cons_cons _ ?_ | refine List.Sublist.cons _ ?_ | exact Sbp.refl | exact Sbp.nil | refine Sbp.cons (by repeat (first | exact Rem.head | apply Rem.tail)) ?_ | exact Sbp.app | refine Sbp.skip ?_)))
    · intro k gj3 hz
      refine CS.seq ?_
      refine CS.region ?_
      refine RS.q rfl (QO.lss (by rfl) (by rfl)) ?_
      refine RS.nil ?_
      refine thenC_n ?_
      refine CS.seq ?_
      refine CS.cond (by rfl) (fun hb2 => ?_) (fun hb2 => ?_)
      · have hb2p := of_decide_eq_true hb2
        refine CS.skip ?_
        refine thenC_n ?_
        refine CS.seq ?_
        refine CS.block ?_
        refine CS.seq ?_
        refine CS.region ?_
        refine RS.q rfl (QO.move) ?_
        refine RS.q rfl (QO.assign) ?_
        refine RS.nil ?_
        refine thenC_n ?_
        refine CS.seq ?_
        refine CS.region ?_
        refine RS.q rfl (QO.fieldAddr fo64_1 (by rfl)) ?_
        first | (refine RS.q rfl (QO.load ty24 (by rfl) (by repeat (first | exact List.Mem.head _ | refine List.Mem.tail _ ?_)) (by rfl)) ?_) | (refine RS.q rfl (QO.loadO ty24 (by rfl) (by assumption)) ?_) | (refine RS.q rfl (QO.load ty24 (by rfl) (by repeat (first | exact List.Mem.head _ | refine List.Mem.tail _ ?_)) (by assumption)) ?_)
        refine RS.q rfl (QO.lenS Try.underlying24 (by rfl)) ?_
        refine RS.q rfl (QO.gtr (by rfl) (by rfl)) ?_
        refine RS.nil ?_
        refine thenC_n ?_
        refine CS.cond (by rfl) (fun hb3 => ?_) (fun hb3 => ?_)
        · have hb3p := of_decide_eq_true hb3
          refine CS.draw 13 rfl (by kernel_rfl) (by kernel_rfl) ?_
          refine RT.take (i := 0) rfl (by kernel_rfl) rfl (QO.fieldAddr fo64_1 (by rfl)) ?_
          first | (refine RT.take (i := 1) rfl (by kernel_rfl) rfl (QO.load ty24 (by rfl) (by repeat (first | exact List.Mem.head _ | refine List.Mem.tail _ ?_)) (by rfl)) ?_) | (refine RT.take (i := 1) rfl (by kernel_rfl) rfl (QO.loadO ty24 (by rfl) (by assumption)) ?_) | (refine RT.take (i := 1) rfl (by kernel_rfl) rfl (QO.load ty24 (by rfl) (by repeat (first | exact List.Mem.head _ | refine List.Mem.tail _ ?_)) (by assumption)) ?_)
          refine RT.take (i := 2) rfl (by kernel_rfl) rfl (QO.move) ?_
          refine RT.take (i := 3) rfl (by kernel_rfl) rfl (QO.fieldAddr fo64_1 (by rfl)) ?_
          first | (refine RT.take (i := 4) rfl (by kernel_rfl) rfl (QO.load ty24 (by rfl) (by repeat (first | exact List.Mem.head _ | refine List.Mem.tail _ ?_)) (by rfl)) ?_) | (refine RT.take (i := 4) rfl (by kernel_rfl) rfl (QO.loadO ty24 (by rfl) (by assumption)) ?_) | (refine RT.take (i := 4) rfl (by kernel_rfl) rfl (QO.load ty24 (by rfl) (by repeat (first | exact List.Mem.head _ | refine List.Mem.tail _ ?_)) (by assumption)) ?_)
          refine RT.take (i := 5) rfl (by kernel_rfl) rfl (QO.move) ?_
          refine RT.take (i := 6) rfl (by kernel_rfl) rfl (QO.fieldAddr fo64_1 (by rfl)) ?_
          first | (refine RT.take (i := 7) rfl (by kernel_rfl) rfl (QO.load ty24 (by rfl) (by repeat (first | exact List.Mem.head _ | refine List.Mem.tail _ ?_)) (by rfl)) ?_) | (refine RT.take (i := 7) rfl (by kernel_rfl) rfl (QO.loadO ty24 (by rfl) (by assumption)) ?_) | (refine RT.take (i := 7) rfl (by kernel_rfl) rfl (QO.load ty24 (by rfl) (by repeat (first | exact List.Mem.head _ | refine List.Mem.tail _ ?_)) (by assumption)) ?_)
          refine RT.take (i := 8) rfl (by kernel_rfl) rfl (QO.lenS Try.underlying24 (by rfl)) ?_
          obtain ⟨bC, oC, rfl, hcC⟩ := hC.at_ (k % ms.length) (Nat.mod_lt _ (by omega))
          have hlt : k % ms.length < ms.length := Nat.mod_lt _ (by omega)
          refine RT.takev (i := 9) rfl (by kernel_rfl) rfl (QO.rem (by rfl) (by rfl) (by omega)) (congrArg iv (tmod_cast k ms.length)) ?_
          first | (refine RT.take (i := 10) rfl (by kernel_rfl) rfl (QO.idx0 Try.underlying24 ty33 (by rfl) (by rfl) (by rfl) (by omega)) ?_) | (refine RT.take (i := 10) rfl (by kernel_rfl) rfl (QO.idxn Try.underlying24 ty33 (by rfl) (by rfl) (by rfl) (by omega)) ?_) | (refine RT.take (i := 10) rfl (by kernel_rfl) rfl (QO.idx1 Try.underlying24 ty33 (by rfl) (by rfl) (by omega) (by omega)) ?_)
          refine RT.take (i := 11) rfl (by kernel_rfl) rfl (QO.loadO ty33 (by rfl) hcC) ?_
          first | (refine RT.take (i := 12) rfl (by kernel_rfl) rfl (QO.idx0 Try.underlying24 ty33 (by rfl) (by rfl) (by rfl) (by omega)) ?_) | (refine RT.take (i := 12) rfl (by kernel_rfl) rfl (QO.idxn Try.underlying24 ty33 (by rfl) (by rfl) (by rfl) (by omega)) ?_) | (refine RT.take (i := 12) rfl (by kernel_rfl) rfl (QO.idx1 Try.underlying24 ty33 (by rfl) (by rfl) (by omega) (by omega)) ?_)
          refine RT.tail (i := 13) (by kernel_rfl) rfl rfl ?_
          refine RS.store1e ty33 rfl (by rfl) (by rfl) (by rfl) (partL_set (mofF ms) M k _ (by unfold mofF; rw [if_pos (by omega)]) (by omega)) (by repeat (first | exact Upd.head | apply Upd.tail)) (by rw [partL_len]; omega) ?_
          refine RS.nil ?_
          refine RT.done (by kernel_rfl) ?_
          refine blockC_n ?_
          refine thenC_n ?_
          refine CS.region ?_
          first | (refine RS.q rfl (QO.add (by rfl) (by rfl) (by omega) (by omega)) ?_) | (refine RS.q rfl (QO.ibin (by rfl) (by rfl) trivial) ?_)
          refine RS.q rfl (QO.move) ?_
          refine RS.nil ?_
          refine loopQ_n (by intro t ht; repeat (first | with_reducible exact rfl | exact frame_puts ht (frame_mix ht) _ rfl | (refine frame_put rfl ht ?_) | (refine frame_puts ht ?_ _ rfl) | exact frame_mix ht | (refine frame_mix2 rfl ht ?_) | exact rfl)) ?_
          exact ⟨k + 1, by omega, by omega, (by repeat (first | exact kn_nil | refine kn_cons (by rfl) ?_)), (by repeat (first | exact List.Sublist.refl _ | exact List.nil_sublist _ | refine List.Sublist.cons_cons _ ?_ | refine List.Sublist.cons _ ?_ | exact Sbp.refl | exact Sbp.nil | refine Sbp.cons (by repeat (first | exact Rem.head | apply Rem.tail)) ?_ | exact Sbp.app | refine Sbp.skip ?_))⟩
        · have hb3p := of_decide_eq_false hb3
          refine CS.skip ?_
          refine blockC_n ?_
          refine thenC_n ?_
          refine CS.region ?_
          first | (refine RS.q rfl (QO.add (by rfl) (by rfl) (by omega) (by omega)) ?_) | (refine RS.q rfl (QO.ibin (by rfl) (by rfl) trivial) ?_)
          refine RS.q rfl (QO.move) ?_
          refine RS.nil ?_
          refine loopQ_n (by intro t ht; repeat (first | with_reducible exact rfl | exact frame_puts ht (frame_mix ht) _ rfl | (refine frame_put rfl ht ?_) | (refine frame_puts ht ?_ _ rfl) | exact frame_mix ht | (refine frame_mix2 rfl ht ?_) | exact rfl)) ?_
          exact ⟨k + 1, by omega, by omega, (by repeat (first | exact kn_nil | refine kn_cons (by rfl) ?_)), (by rw [← partL_skip (mofF ms) M k (by unfold mofF; rw [if_neg (by omega)])]; exact (by repeat (first | exact List.Sublist.refl _ | exact List.nil_sublist _ | refine List.Sublist.cons_cons _ ?_ | refine List.Sublist.cons _ ?_ | exact Sbp.refl | exact Sbp.nil | refine Sbp.cons (by repeat (first | exact Rem.head | apply Rem.tail)) ?_ | exact Sbp.app | refine Sbp.skip ?_)))⟩
      · have hb2p := of_decide_eq_false hb2
        refine CS.exit ?_
        refine thenC_x ?_
        refine loopQ_x ?_
        refine blockC_x ?_
        refine thenC_n ?_
        refine CS.seq ?_
        refine CS.region ?_
        first | (refine RS.q rfl (QO.loadB ty64 (by rfl) (by repeat (first | exact List.Mem.head _ | refine List.Mem.tail _ ?_)) (by rfl)) ?_) | (refine RS.q rfl (QO.loadA ty64 (by rfl) (by repeat (first | exact List.Mem.head _ | refine List.Mem.tail _ ?_)) (by rfl) (by rfl)) ?_) | (refine RS.q rfl (QO.loadOA ty64 (by rfl) (by assumption) (by rfl)) ?_)
        first | refine RS.storeB ty64 (by rfl) (by rfl) (by rfl) (by rfl) (by rfl) (by repeat (first | exact Upd.head | apply Upd.tail)) (by rfl) ?_ | refine RS.storeP ty64 (by rfl) (by rfl) (by rfl) (by rfl) (by rfl) (by repeat (first | exact Upd.head | apply Upd.tail)) (by rfl) ?_
        refine RS.nil ?_
        refine thenC_n ?_
        refine CS.ret ?_
        refine retQ.mk (H' := [⟨g13, 33, ((List.range M).map (mofF ms)).map flt⟩]) (.inr rfl) (RVs.cellA ty64 (by rfl) (by repeat (first | exact List.Mem.head _ | refine List.Mem.tail _ ?_)) (by rfl) RVs.nil) (by obtain rfl : k = M := (by omega); rw [partL_full]; exact (by repeat (first | exact List.Sublist.refl _ | exact List.nil_sublist _ | refine List.Sublist.cons_cons _ ?_ | refine List.Sublist.cons _ ?_ | exact Sbp.refl | exact Sbp.nil | refine Sbp.cons (by repeat (first | exact Rem.head | apply Rem.tail)) ?_ | exact Sbp.app | refine Sbp.skip ?_))) ?_
        exact ⟨g13, rfl, rfl⟩

end Go.Proofs.Ytplfeaikjgfhcaa
