/-
  The law FramesJoin of the given rows: at every input the call returns true and leaves its arguments as they were. Conditions: none.
-/
import Derived.Test.YtdfbeigjinhgiaaY3
import Derived.DeepKeys4
import Derived.Lib.AppendZerosOnto
import Derived.Test.YtdfbeigjinhgiaaRows
import Derived.WalkKit
import Derived.ProofKit
import Derived.OpenShut
import Derived.ShutString
import Derived.ChangeOld
import Derived.Below
namespace Go.Proofs.Ytdfbeigjinhgiaa
open Go Go.Proofs Go.RowKit

theorem ty50 : tyChk Try.prog 50 = some ([.map none], false, 8) := by kernel_rfl
theorem ty55 : tyChk Try.prog 55 = some ([.int .i64 0, .int .i64 0], true, 16) := by kernel_rfl
theorem pl55 : places Try.prog 55 = some #[(0, 1), (1, 1)] := by kernel_rfl
theorem ok21 : callOK Try.prog 21 = true := by kernel_rfl
set_option maxRecDepth 100000 in
theorem frameError (x y wi he : Int) (A : Option Addr) (n c : Nat) (W : World) (bx : -9223372036854775808 ≤ x ∧ x ≤ 9223372036854775807) : Fn_ Try.prog 21 #[.agg #[iv x, iv y, iv wi, iv he, .slice A n c]] W (fun v H => v = iv (frErr x y wi he n) ∧ H = []) := by
  refine Fn_.intro Try.func21 rfl rfl (by rfl) ?_
  refine CS.seq ?_
  refine CS.region ?_
  refine RS.box rfl (by rfl) (by rfl) ?_
  intro g1
  refine RS.q rfl (QO.assign) ?_
  refine RS.nil ?_
  refine thenC_n ?_
  refine CS.seq ?_
  refine CS.draw 19 rfl (by kernel_rfl) (by kernel_rfl) ?_
  refine RT.take (i := 0) rfl (by kernel_rfl) rfl (QO.fieldAddr fo26_0 (by rfl)) ?_
  first | (refine RT.take (i := 1) rfl (by kernel_rfl) rfl (QO.loadB ty23 (by rfl) (by repeat (first | exact List.Mem.head _ | refine List.Mem.tail _ ?_)) (by rfl)) ?_) | (refine RT.take (i := 1) rfl (by kernel_rfl) rfl (QO.loadA ty23 (by rfl) (by repeat (first | exact List.Mem.head _ | refine List.Mem.tail _ ?_)) (by rfl) (by rfl)) ?_) | (refine RT.take (i := 1) rfl (by kernel_rfl) rfl (QO.loadOA ty23 (by rfl) (by assumption) (by rfl)) ?_)
  refine RT.take (i := 3) rfl (by kernel_rfl) rfl (QO.fieldAddr fo26_1 (by rfl)) ?_
  first | (refine RT.take (i := 4) rfl (by kernel_rfl) rfl (QO.load ty24 (by rfl) (by repeat (first | exact List.Mem.head _ | refine List.Mem.tail _ ?_)) (by rfl)) ?_) | (refine RT.take (i := 4) rfl (by kernel_rfl) rfl (QO.loadO ty24 (by rfl) (by assumption)) ?_) | (refine RT.take (i := 4) rfl (by kernel_rfl) rfl (QO.load ty24 (by rfl) (by repeat (first | exact List.Mem.head _ | refine List.Mem.tail _ ?_)) (by assumption)) ?_)
  refine RT.take (i := 5) rfl (by kernel_rfl) rfl (QO.lenS Try.underlying24 (by rfl)) ?_
  refine RT.take (i := 6) rfl (by kernel_rfl) rfl (QO.fieldAddr fo26_0 (by rfl)) ?_
  refine RT.take (i := 7) rfl (by kernel_rfl) rfl (QO.fieldAddr fo23_2 (by rfl)) ?_
  first | (refine RT.take (i := 8) rfl (by kernel_rfl) rfl (QO.load ty3 (by rfl) (by repeat (first | exact List.Mem.head _ | refine List.Mem.tail _ ?_)) (by rfl)) ?_) | (refine RT.take (i := 8) rfl (by kernel_rfl) rfl (QO.loadO ty3 (by rfl) (by assumption)) ?_) | (refine RT.take (i := 8) rfl (by kernel_rfl) rfl (QO.load ty3 (by rfl) (by repeat (first | exact List.Mem.head _ | refine List.Mem.tail _ ?_)) (by assumption)) ?_)
  refine RT.take (i := 9) rfl (by kernel_rfl) rfl (QO.ibin (by rfl) (by rfl) trivial) ?_
  refine RT.take (i := 10) rfl (by kernel_rfl) rfl (QO.fieldAddr fo26_0 (by rfl)) ?_
  refine RT.take (i := 11) rfl (by kernel_rfl) rfl (QO.fieldAddr fo23_3 (by rfl)) ?_
  first | (refine RT.take (i := 12) rfl (by kernel_rfl) rfl (QO.load ty3 (by rfl) (by repeat (first | exact List.Mem.head _ | refine List.Mem.tail _ ?_)) (by rfl)) ?_) | (refine RT.take (i := 12) rfl (by kernel_rfl) rfl (QO.loadO ty3 (by rfl) (by assumption)) ?_) | (refine RT.take (i := 12) rfl (by kernel_rfl) rfl (QO.load ty3 (by rfl) (by repeat (first | exact List.Mem.head _ | refine List.Mem.tail _ ?_)) (by assumption)) ?_)
  refine RT.take (i := 13) rfl (by kernel_rfl) rfl (QO.ibin (by rfl) (by rfl) trivial) ?_
  refine RT.take (i := 14) rfl (by kernel_rfl) rfl (QO.neq (by rfl) (by rfl)) ?_
  refine RT.one (i := 2) (by kernel_rfl) rfl rfl ?_
  refine RS.call rfl (by rfl) ok20 (by rfl) (fun w ho => regionError _ _ _ _ _ bx) ?_
  rintro _ _ ⟨rfl, rfl⟩
  refine RS.nil ⟨(by repeat (first | exact List.Sublist.refl _ | exact List.nil_sublist _ | refine List.Sublist.cons_cons _ ?_ | refine List.Sublist.cons _ ?_ | exact Sbp.refl | exact Sbp.nil | refine Sbp.cons (by repeat (first | exact Rem.head | apply Rem.tail)) ?_ | exact Sbp.app | refine Sbp.skip ?_ | exact List.sublist_append_left _ _ | exact List.sublist_append_right _ _)), ?_⟩
  refine RT.one (i := 15) (by kernel_rfl) rfl rfl ?_
  refine RS.call rfl (by rfl) ok36 (by rfl) (fun w ho => when _ _ _) ?_
  rintro _ _ ⟨rfl, rfl⟩
  refine RS.nil ⟨(by repeat (first | exact List.Sublist.refl _ | exact List.nil_sublist _ | refine List.Sublist.cons_cons _ ?_ | refine List.Sublist.cons _ ?_ | exact Sbp.refl | exact Sbp.nil | refine Sbp.cons (by repeat (first | exact Rem.head | apply Rem.tail)) ?_ | exact Sbp.app | refine Sbp.skip ?_ | exact List.sublist_append_left _ _ | exact List.sublist_append_right _ _)), ?_⟩
  refine RT.one (i := 16) (by kernel_rfl) rfl rfl ?_
  refine RS.buildSlice rfl Try.underlying73 ty30 (by decide) (by decide) (by rfl) (by rfl) ?_
  intro g19
  refine RS.nil ⟨(by repeat (first | exact List.Sublist.refl _ | exact List.nil_sublist _ | refine List.Sublist.cons_cons _ ?_ | refine List.Sublist.cons _ ?_ | exact Sbp.refl | exact Sbp.nil | refine Sbp.cons (by repeat (first | exact Rem.head | apply Rem.tail)) ?_ | exact Sbp.app | refine Sbp.skip ?_ | exact List.sublist_append_left _ _ | exact List.sublist_append_right _ _)), ?_⟩
  refine RT.one (i := 17) (by kernel_rfl) rfl rfl ?_
  refine RS.call rfl (by rfl) ok35 (by rfl) (fun w ho => first2 _ _ _ _ (fun j v hj => ho.cell0 (by repeat (first | exact List.Mem.head _ | refine List.Mem.tail _ ?_)) hj)) ?_
  rintro _ _ ⟨rfl, rfl⟩
  refine RS.nil ⟨(by repeat (first | exact List.Sublist.refl _ | exact List.nil_sublist _ | refine List.Sublist.cons_cons _ ?_ | refine List.Sublist.cons _ ?_ | exact Sbp.refl | exact Sbp.nil | refine Sbp.cons (by repeat (first | exact Rem.head | apply Rem.tail)) ?_ | exact Sbp.app | refine Sbp.skip ?_ | exact List.sublist_append_left _ _ | exact List.sublist_append_right _ _)), ?_⟩
  refine RT.take (i := 18) rfl (by kernel_rfl) rfl (QO.assign) ?_
  refine RT.done (by kernel_rfl) ?_
  refine thenC_n ?_
  refine CS.ret ?_
  refine retQ.mk (H' := []) (.inr rfl) (RVs.tmp (by rfl) RVs.nil) (List.nil_sublist _) ?_
  exact ⟨congrArg iv (by
      unfold frErr
      by_cases h : regErr x y wi he = 0
      · rw [h]
        simp only [ne_eq, not_true_eq_false, if_false]
        have hro := regErr_ok h
        have hw1 : IntKind.i64.wrap (4 * wi) = 4 * wi := w64 (by omega) (by omega)
        rw [hw1]
        have hw : IntKind.i64.wrap (4 * wi * he) = 4 * wi * he := w64 (by omega) (by omega)
        rw [hw]
        by_cases h2 : (n : Int) = 4 * wi * he
        · rw [if_neg (Decidable.not_not.2 h2), h2]; simp
        · rw [if_pos h2, if_pos (bne_iff_ne.2 h2)]
      · rw [if_pos h, if_pos h]), rfl⟩

theorem laidOut : laidOutB Try.prog = true := by kernel_rfl
theorem row55 : (55 : TypeId) < Try.prog.types.size := of_decide_eq_true (by kernel_rfl)
theorem wide55 : (match Try.prog.underlying 55 with | some (.array _ _) | some (.struct _) => true | _ => false) = true := by rw [Try.underlying55]
theorem ptK : Go.Maps.Keyed Try.prog 55 := Go.Maps.Keyed.of_law (deep_law_laid laidOut (m := 2) (by omega) row55 (by kernel_rfl) wide55)
theorem cells55 : Try.prog.cellsOf 55 = 2 := by kernel_rfl
theorem cells3 : Try.prog.cellsOf 3 = 1 := by kernel_rfl
theorem size91 : Try.prog.types.size + 1 = 90 + 1 + 1 := by kernel_rfl
theorem keyT55 : Try.prog.keyType 55 = true := by kernel_rfl
def ptv (x y : Int) : Value := .agg #[iv x, iv y]
theorem pt_lits (d : Nat) {x y : Int} (wx : (Lit.int .i64 x).wf = true) (wy : (Lit.int .i64 y).wf = true) : Try.prog.keyLits (d + 1 + 1) 55 [iv x, iv y] = some [.int .i64 x, .int .i64 y] := by
  have h3 : ∀ z : Int, (Lit.int .i64 z).wf = true → Try.prog.keyLits (d + 1) 3 [iv z] = some [.int .i64 z] := fun z hz => by
    unfold Program.keyLits
    rw [Try.underlying3]
    simp [hz]
  unfold Program.keyLits
  rw [Try.underlying55]
  simp [cells55, cells3, h3 x wx, h3 y wy]
theorem wf64 {x : Int} (hx : -9223372036854775808 ≤ x ∧ x ≤ 9223372036854775807) : (Lit.int .i64 x).wf = true := by
  simp only [Lit.wf, Bool.and_eq_true, decide_eq_true_eq]
  exact hx
theorem pt_key {x y : Int} (hx : -9223372036854775808 ≤ x ∧ x ≤ 9223372036854775807) (hy : -9223372036854775808 ≤ y ∧ y ≤ 9223372036854775807) : ∃ kl, keyOf Try.prog 55 (ptv x y) = some kl := by
  have hf : (ptv x y).formed Try.prog 55 = true := by simp [Value.formed, ptv, Try.underlying55, cells55]
  have hl := pt_lits 90 (wf64 hx) (wf64 hy)
  have h : keyOf Try.prog 55 (ptv x y) = some (.string (keyBytes [.int .i64 x, .int .i64 y])) := by
    unfold keyOf
    rw [Try.underlying55]
    simp only [keyT55, hf, Bool.and_self, if_true, size91]
    show Option.map _ (Try.prog.keyLits (90 + 1 + 1) 55 [iv x, iv y]) = _
    rw [hl]; rfl
  exact ⟨_, h⟩

theorem z52 : zeroChk Try.prog 52 = some (.agg #[flt 0, flt 0, flt 0, flt 0]) := by kernel_rfl
theorem ptv_ne {x y x' y' : Int} (h : ¬ (x = x' ∧ y = y')) : ptv x y ≠ ptv x' y' := fun e => h (by
  unfold ptv at e
  simp only [Value.agg.injEq] at e
  have e := congrArg Array.toList e
  simp only [List.cons.injEq, Value.int.injEq, true_and, and_true] at e
  exact e)
theorem pxv_congr {q r : Nat → Nat} (h : ∀ c, c < 4 → q c = r c) : pxv q = pxv r := by
  show Value.agg #[flt (q 0), flt (q 1), flt (q 2), flt (q 3)] = _
  rw [h 0 (by decide), h 1 (by decide), h 2 (by decide), h 3 (by decide)]
/-- what the map has -/
def JM (X Y : Int) (a b : Nat) (es : Array MapEntry) (s : JS) : Prop :=
  (∀ i j : Nat, i < a → j < b → mg es (ptv (X + (i : Int)) (Y + (j : Int))) = if s.cov (a * j + i) = true then some (pxv fun c => s.V (4 * (a * j + i) + c)) else none) ∧ es.size = cntC s.cov (a * b)
theorem JM.zero (X Y : Int) (a b : Nat) : JM X Y a b #[] js0 := by
  refine ⟨fun i j _ _ => ?_, ?_⟩
  · rw [mg_nil]; rfl
  · have := cntC_zero (a * b)
    exact this.symm
theorem pxF_at {X Y : Int} {a x r c : Nat} {f : FrS} (hx : x < a) (hc : c < 4) : pxF X Y a f (4 * (a * r + x) + c) = pixF f.zs f.x f.y f.w.toNat f.h.toNat (X + (x : Int)) (Y + (r : Int)) c := by
  unfold pxF
  have h1 : (4 * (a * r + x) + c) / 4 = a * r + x := by omega
  have h2 : (4 * (a * r + x) + c) % 4 = c := by omega
  have h3 := pl_of (r := r) hx
  rw [h1, h2, h3.1, h3.2]
theorem idx_ne {a i j i' j' : Nat} (hi : i < a) (hi' : i' < a) (h : ¬ (i' = i ∧ j' = j)) : a * j' + i' ≠ a * j + i := fun e => h (by
  have h1 := pl_of (r := j) hi
  have h2 := pl_of (r := j') hi'
  rw [e] at h2
  exact ⟨by omega, by omega⟩)
theorem JM.put {X Y : Int} {a b p q u v j i : Nat} {f : FrS} {s : JS} {es es' : Array MapEntry} (h : JM X Y a b es (jMid X Y a f s p u q j i)) (hp : p + u ≤ a) (hq : q + v ≤ b) (hj : j < v) (hi : i < u) (hx : f.x = X + p) (hy : f.y = Y + q) (hw : f.w = u) (hh : f.h = v)
    (hc : (jMid X Y a f s p u q j i).cov (a * (q + j) + (p + i)) = false) (ho : ∀ k', k' ≠ ptv (f.x + (i : Int)) (f.y + (j : Int)) → mg es' k' = mg es k') (hs : mg es' (ptv (f.x + (i : Int)) (f.y + (j : Int))) = some (pxv (pixF f.zs f.x f.y u v (f.x + (i : Int)) (f.y + (j : Int)))))
    (hz : es'.size = es.size + (if (mg es (ptv (f.x + (i : Int)) (f.y + (j : Int)))).isSome then 0 else 1)) : JM X Y a b es' (jMid X Y a f s p u q j (i + 1)) := by
  have kx : f.x + (i : Int) = X + ((p + i : Nat) : Int) := by rw [hx]; omega
  have ky : f.y + (j : Int) = Y + ((q + j : Nat) : Int) := by rw [hy]; omega
  rw [kx, ky] at ho hs hz
  have hold := h.1 (p + i) (q + j) (by omega) (by omega)
  rw [hc] at hold
  refine ⟨fun i' j' hi' hj' => ?_, ?_⟩
  · by_cases e : i' = p + i ∧ j' = q + j
    · obtain ⟨rfl, rfl⟩ := e
      rw [hs, jMid_cov hp hi, beq_self_eq_true, Bool.or_true, if_pos rfl]
      refine congrArg some (pxv_congr fun c hc4 => ?_)
      have hv : vsP a p u q j (i + 1) (a * (q + j) + (p + i)) = true := by rw [vsP_step hp hi]; simp
      have h1 : (4 * (a * (q + j) + (p + i)) + c) / 4 = a * (q + j) + (p + i) := by omega
      show _ = if vsP a p u q j (i + 1) ((4 * (a * (q + j) + (p + i)) + c) / 4) = true then pxF X Y a f (4 * (a * (q + j) + (p + i)) + c) else s.V (4 * (a * (q + j) + (p + i)) + c)
      rw [h1, if_pos hv, pxF_at (by omega) hc4, hw, hh]; rfl
    · have hne := idx_ne (a := a) (i := p + i) (j := q + j) (i' := i') (j' := j') (by omega) hi' e
      rw [ho _ (ptv_ne fun e2 => e ⟨by omega, by omega⟩), h.1 i' j' hi' hj', jMid_cov hp hi]
      have hb : (a * j' + i' == a * (q + j) + (p + i)) = false := by simpa using hne
      rw [hb, Bool.or_false]
      by_cases hcv : (jMid X Y a f s p u q j i).cov (a * j' + i') = true
      · rw [if_pos hcv, if_pos hcv]
        refine congrArg some (pxv_congr fun c hc4 => ?_)
        have h1 : (4 * (a * j' + i') + c) / 4 = a * j' + i' := by omega
        show (if vsP a p u q j i ((4 * (a * j' + i') + c) / 4) = true then _ else _) = if vsP a p u q j (i + 1) ((4 * (a * j' + i') + c) / 4) = true then _ else _
        rw [h1, vsP_step hp hi, hb, Bool.or_false]
      · rw [if_neg hcv, if_neg hcv]
  · rw [hz, hold, cnt_step hp hq hj hi hc, h.2]; rfl
theorem JM.cast {X Y : Int} {a b : Nat} {es : Array MapEntry} {m m' : JS} (h : JM X Y a b es m) (e : m = m') : JM X Y a b es m' := e ▸ h
/-- what the picture is made of -/
def jP (X Y : Int) (a : Nat) (s : JS) (x y : Int) (c : Nat) : Nat := s.V (4 * (a * (y - Y).toNat + (x - X).toNat) + c)
theorem jP_made {X Y : Int} {a b : Nat} {s : JS} : madeV (jP X Y a s) X Y a (4 * (a * b)) = jVals s (a * b) := by
  unfold madeV jVals madeF jP
  refine List.map_congr_left fun i _ => ?_
  have e1 : ∀ (Z : Int) (n : Nat), (Z + (n : Int) - Z).toNat = n := fun Z n => by omega
  rw [e1, e1, Nat.div_add_mod, Nat.div_add_mod]
theorem pixJ (f : FrS) (u v : Nat) (x y : Int) (W : World) (hzl : f.zs.length = f.n) (hFS : FS W f.A f.zs) (hn2 : (f.n : Int) = 4 * f.w * f.h) (hnc : f.n ≤ f.c) (hw : f.w = u) (hh : f.h = v) (hX2 : -1048576 ≤ f.x ∧ f.x ≤ 1048576) (hY2 : -1048576 ≤ f.y ∧ f.y ≤ 1048576) (ha2 : 1 ≤ u ∧ u ≤ 256) (hb2 : 1 ≤ v ∧ v ≤ 256) :
    Fn_ Try.prog 23 #[.agg #[iv f.x, iv f.y, iv f.w, iv f.h, .slice f.A f.n f.c], iv x, iv y] W (fun v' H => v' = pxv (pixF f.zs f.x f.y u v x y) ∧ H = []) := by
  have hn3 : f.n = 4 * (u * v) := by
    rw [hw, hh, Int.mul_assoc, ← Int.natCast_mul] at hn2
    omega
  rw [hw, hh]
  exact pixelAt f.x f.y u v f.A f.n f.c f.zs x y W hzl hFS hn3 hnc ha2 hb2 hX2 hY2

set_option maxRecDepth 100000 in
theorem rjoin1 (x y : Int) (g gm : Nat) (es : Array MapEntry) (clk : Nat) (q : Nat → Nat) (kl : Lit) (W : World) (hg : W.cell? ⟨g, 0, none⟩ = some (.map (some gm))) (hM : W.heap[gm]? = some (.map es clk)) (hok : MapOK Try.prog 55 es clk) (hkey : keyOf Try.prog 55 (ptv x y) = some kl) (hq : mg es (ptv x y) = some (pxv q)) : Fn_ Try.prog 25 #[iv x, iv y, .pointer (some ⟨g, 0, none⟩)] W (fun v H => v = pxv q ∧ H = []) := by
  refine Fn_.intro Try.func25 rfl rfl (by rfl) ?_
  refine CS.seq ?_
  refine CS.region ?_
  refine RS.alloc rfl ty52 ?_
  intro g5
  refine RS.nil ?_
  refine thenC_n ?_
  refine CS.seq ?_
  refine CS.region ?_
  refine RS.q rfl (QO.loadO ty50 (by rfl) hg) ?_
  refine RS.q rfl (QO.move) ?_
  refine RS.q rfl (QO.move) ?_
  refine RS.qv rfl (QO.build ty55 pl55 (by rfl)) ((show _ = ptv x y from rfl)) ?_
  refine RS.qv rfl (QO.look ptK Try.underlying50 z52 (.inl hM) hok (by rfl) (by rfl) hkey) ((show lookV false _ (mg es (ptv x y)) = pxv q from by rw [hq]; rfl)) ?_
  first | refine RS.storeB ty52 (by rfl) (by rfl) (by rfl) (by rfl) (by rfl) (by repeat (first | exact Upd.head | apply Upd.tail | exact Upd.app _ Upd.head)) (by rfl) ?_ | refine RS.storeP ty52 (by rfl) (by rfl) (by rfl) (by rfl) (by rfl) (by repeat (first | exact Upd.head | apply Upd.tail | exact Upd.app _ Upd.head)) (by rfl) ?_
  refine RS.nil ?_
  refine thenC_n ?_
  refine CS.ret ?_
  refine retQ.mk (H' := []) (.inr rfl) (RVs.cellA ty52 (by rfl) (by repeat (first | exact List.Mem.head _ | refine List.Mem.tail _ ?_)) (by rfl) RVs.nil) (List.nil_sublist _) ?_
  exact ⟨rfl, rfl⟩

set_option maxHeartbeats 16000000 in
set_option maxRecDepth 100000 in
theorem rjoinBad (X Y w_ h_ : Int) (A : Option Addr) (c : Nat) (fs : List FrS) (W : World) (hA : FsL W A fs) (hm : fs.length ≤ maxLen) (bx : -9223372036854775808 ≤ X ∧ X ≤ 9223372036854775807) (hr : regErr X Y w_ h_ ≠ 0) : Fn_ Try.prog 7 #[.agg #[iv X, iv Y, iv w_, iv h_], .slice A fs.length c] W (fun v H => FrR (jErr X Y w_ h_ fs) X Y w_ h_ (jVals (jEnd X Y w_.toNat fs js0) (w_.toNat * h_.toNat)) v H) := by
  refine Fn_.intro Try.func7 rfl rfl (by rfl) ?_
  refine CS.seq ?_
  refine CS.region ?_
  refine RS.box rfl (by rfl) (by rfl) ?_
  intro g2
  refine RS.alloc rfl ty26 ?_
  intro g4
  refine RS.q rfl (QO.assign) ?_
  refine RS.nil ?_
  refine thenC_n ?_
  refine CS.seq ?_
  refine CS.seq ?_
  refine CS.region ?_
  first | (refine RS.q rfl (QO.loadB ty23 (by rfl) (by repeat (first | exact List.Mem.head _ | refine List.Mem.tail _ ?_)) (by rfl)) ?_) | (refine RS.q rfl (QO.loadA ty23 (by rfl) (by repeat (first | exact List.Mem.head _ | refine List.Mem.tail _ ?_)) (by rfl) (by rfl)) ?_) | (refine RS.q rfl (QO.loadOA ty23 (by rfl) (by assumption) (by rfl)) ?_)
  refine RS.call rfl (by rfl) ok20 (by rfl) (fun w ho => regionError _ _ _ _ _ bx) ?_
  rintro _ _ ⟨rfl, rfl⟩
  refine RS.q rfl (QO.assign) ?_
  refine RS.nil ?_
  refine thenC_n ?_
  refine CS.seq ?_
  refine CS.region ?_
  refine RS.q rfl (QO.move) ?_
  refine RS.q rfl (QO.neq (by rfl) (by rfl)) ?_
  refine RS.nil ?_
  refine thenC_n ?_
  refine CS.condT (by rfl) (bne_iff_ne.2 hr) ?_
  refine CS.seq ?_
  refine CS.region ?_
  refine RS.q rfl (QO.build ty26 pl26 (by rfl)) ?_
  refine RS.q rfl (QO.move) ?_
  first | refine RS.storeB ty26 (by rfl) (by rfl) (by rfl) (by rfl) (by rfl) (by repeat (first | exact Upd.head | apply Upd.tail | exact Upd.app _ Upd.head)) (by rfl) ?_ | refine RS.storeP ty26 (by rfl) (by rfl) (by rfl) (by rfl) (by rfl) (by repeat (first | exact Upd.head | apply Upd.tail | exact Upd.app _ Upd.head)) (by rfl) ?_
  refine RS.q rfl (QO.assign) ?_
  refine RS.nil ?_
  refine thenC_n ?_
  refine CS.ret ?_
  refine thenC_r ?_
  refine retQ.mk (H' := []) (.inr rfl) (RVs.cellA ty26 (by rfl) (by repeat (first | exact List.Mem.head _ | refine List.Mem.tail _ ?_)) (by rfl) (RVs.tmp (by rfl) RVs.nil)) (List.nil_sublist _) ?_
  exact FrR.mkE (if_pos hr) hr

set_option maxHeartbeats 16000000 in
set_option maxRecDepth 100000 in
theorem rjoinOk (X Y : Int) (a b : Nat) (A : Option Addr) (c : Nat) (fs : List FrS) (W : World) (hA : FsL W A fs) (hm : fs.length ≤ maxLen) (hfb : ∀ f ∈ fs, -9223372036854775808 ≤ f.x ∧ f.x ≤ 9223372036854775807) (hr0 : regErr X Y a b = 0) : Fn_ Try.prog 7 #[.agg #[iv X, iv Y, iv (a : Int), iv (b : Int)], .slice A fs.length c] W (fun v H => FrR (jE X Y a b fs js0) X Y a b (jVals (jEnd X Y a fs js0) (a * b)) v H) := by
  have hro := regErr_ok hr0
  have hX : -1048576 ≤ X ∧ X ≤ 1048576 := by omega
  have hY : -1048576 ≤ Y ∧ Y ≤ 1048576 := by omega
  have ha : 1 ≤ a ∧ a ≤ 256 := by omega
  have hb : 1 ≤ b ∧ b ≤ 256 := by omega
  have hrc : ((a * b : Nat) : Int) = (a : Int) * (b : Int) := Int.natCast_mul ..
  have habN : a * b ≤ 16384 := by omega
  unfold maxLen at hm
  refine Fn_.intro Try.func7 rfl rfl (by rfl) ?_
  refine CS.seq ?_
  refine CS.region ?_
  refine RS.box rfl (by rfl) (by rfl) ?_
  intro g2
  refine RS.alloc rfl ty26 ?_
  intro g4
  refine RS.q rfl (QO.assign) ?_
  refine RS.nil ?_
  refine thenC_n ?_
  refine CS.seq ?_
  refine CS.seq ?_
  refine CS.region ?_
  first | (refine RS.q rfl (QO.loadB ty23 (by rfl) (by repeat (first | exact List.Mem.head _ | refine List.Mem.tail _ ?_)) (by rfl)) ?_) | (refine RS.q rfl (QO.loadA ty23 (by rfl) (by repeat (first | exact List.Mem.head _ | refine List.Mem.tail _ ?_)) (by rfl) (by rfl)) ?_) | (refine RS.q rfl (QO.loadOA ty23 (by rfl) (by assumption) (by rfl)) ?_)
  refine RS.call rfl (by rfl) ok20 (by rfl) (fun w ho => regionError _ _ _ _ _ (by omega)) ?_
  rintro _ _ ⟨rfl, rfl⟩
  refine RS.q rfl (QO.assign) ?_
  refine RS.nil ?_
  refine thenC_n ?_
  refine CS.seq ?_
  refine CS.region ?_
  refine RS.q rfl (QO.move) ?_
  refine RS.qv rfl (QO.neq (by rfl) (by rfl)) (congrArg Value.bool (show (regErr X Y (a : Int) (b : Int) != 0) = false from by rw [hr0]; rfl)) ?_
  refine RS.nil ?_
  refine thenC_n ?_
  refine CS.condF (by rfl) rfl ?_
  refine CS.skip ?_
  refine thenC_n ?_
  refine CS.seq ?_
  refine CS.region ?_
  refine RS.makeMap rfl (.inl rfl) ?_
  intro g21
  refine RS.alloc rfl ty50 ?_
  intro g7
  refine RS.store1 ty50 rfl (by rfl) (by rfl) (by rfl) (by repeat (first | exact Upd.head | apply Upd.tail | exact Upd.app _ Upd.head)) (by first | (simp; done) | (simp; omega) | omega) ?_
  refine RS.nil ?_
  refine thenC_n ?_
  refine CS.seq ?_
  refine CS.seq ?_
  refine CS.region ?_
  refine RS.q rfl (QO.move) ?_
  refine RS.q rfl (QO.lenS Try.underlying27 (by rfl)) ?_
  refine RS.q rfl (QO.move) ?_
  refine RS.nil ?_
  refine thenC_n ?_
  refine CS.block ?_
  refine CS.loop (X := Nat × JS × Array MapEntry × Nat) (5 :: 9 :: 10 :: 11 :: 12 :: 13 :: 14 :: 24 :: 25 :: 26 :: 27 :: 28 :: 29 :: 30 :: 31 :: 32 :: 33 :: 34 :: 35 :: 36 :: 37 :: 38 :: 39 :: 40 :: 41 :: 42 :: 43 :: 44 :: 45 :: 46 :: 47 :: 48 :: 49 :: 50 :: 51 :: 52 :: 53 :: 54 :: 55 :: 56 :: 57 :: 58 :: 59 :: 60 :: 61 :: 62 :: 63 :: 64 :: 65 :: 66 :: 67 :: 68 :: 69 :: 70 :: 71 :: 72 :: 73 :: 74 :: 75 :: 76 :: 77 :: 78 :: 79 :: 80 :: 81 :: 82 :: 83 :: 84 :: 85 :: 86 :: []) (fun z => [(24, iv (z.1 : Int))]) (fun z => [⟨g7, 50, [.map (some g21)]⟩, ⟨g21, .obj (.map z.2.2.1 z.2.2.2), []⟩, ⟨g4, 26, [iv 0, iv 0, iv 0, iv 0, .slice none 0 0]⟩, ⟨g2, 23, [iv X, iv Y, iv (a : Int), iv (b : Int)]⟩]) (fun z => z.1 ≤ fs.length ∧ jE X Y a b (fs.drop z.1) z.2.1 = jE X Y a b fs js0 ∧ jEnd X Y a (fs.drop z.1) z.2.1 = jEnd X Y a fs js0 ∧ MapOK Try.prog 55 z.2.2.1 z.2.2.2 ∧ JM X Y a b z.2.2.1 z.2.1) (fun z => fs.length - z.1) (0, js0, #[], 0) ⟨Nat.zero_le _, rfl, rfl, MapOK.nil _ _ _, JM.zero X Y a b⟩ ?_ ?_ ?_
  · exact kn_cons (by rfl) kn_nil
  · exact (by repeat (first | exact List.Sublist.refl _ | exact List.nil_sublist _ | refine List.Sublist.cons_cons _ ?_ | refine List.Sublist.cons _ ?_ | exact Sbp.refl | exact Sbp.nil | refine Sbp.cons (by repeat (first | exact Rem.head | apply Rem.tail)) ?_ | exact Sbp.app | refine Sbp.skip ?_ | exact List.sublist_append_left _ _ | exact List.sublist_append_right _ _))
  · intro z gj6 hz
    obtain ⟨k, s, es, clk⟩ := z
    obtain ⟨hk, hjE, hjV, hok, hJM⟩ := hz
    simp only at hk hjE hjV hok hJM
    show CS _ _ _ _ _ (puts (mix _ _ _) [(24, iv (k : Int))]) ([⟨g7, 50, [.map (some g21)]⟩, ⟨g21, .obj (.map es clk), []⟩, ⟨g4, 26, [iv 0, iv 0, iv 0, iv 0, .slice none 0 0]⟩, ⟨g2, 23, [iv X, iv Y, iv (a : Int), iv (b : Int)]⟩])
    refine CS.seq ?_
    refine CS.region ?_
    refine RS.q rfl (QO.lss (by rfl) (by rfl)) ?_
    refine RS.nil ?_
    refine thenC_n ?_
    refine CS.seq ?_
    refine CS.cond (by rfl) (fun hb0 => ?_) (fun hb0 => ?_)
    · have hb0p := of_decide_eq_true hb0
      refine CS.skip ?_
      refine thenC_n ?_
      refine CS.seq ?_
      refine CS.block ?_
      refine CS.seq ?_
      refine CS.region ?_
      have hkl : k < fs.length := by omega
      have hx1 := hA (by omega)
      obtain ⟨bA, oA, hA0, hcell⟩ := hx1
      subst hA0
      have hx2 : ∃ f, fs[k]? = some f := ⟨_, List.getElem?_eq_getElem hkl⟩
      obtain ⟨f, hf⟩ := hx2
      have hx3 := hcell k f hf
      obtain ⟨hc5, hFS, hzl, hnc, hcm⟩ := hx3
      rw [drop_cons hf] at hjE hjV
      refine RS.q rfl (QO.idx Try.underlying27 ty26 (by rfl) (by rfl) (by omega) (by omega)) ?_
      refine RS.q rfl (QO.loadOA ty26 (vs := [iv f.x, iv f.y, iv f.w, iv f.h, .slice f.A f.n f.c]) (by rfl) hc5 (by rfl)) ?_
      refine RS.alloc rfl ty26 ?_
      intro g9
      first | refine RS.storeB ty26 (by rfl) (by rfl) (by rfl) (by rfl) (by rfl) (by repeat (first | exact Upd.head | apply Upd.tail | exact Upd.app _ Upd.head)) (by rfl) ?_ | refine RS.storeP ty26 (by rfl) (by rfl) (by rfl) (by rfl) (by rfl) (by repeat (first | exact Upd.head | apply Upd.tail | exact Upd.app _ Upd.head)) (by rfl) ?_
      refine RS.nil ?_
      refine thenC_n ?_
      refine CS.seq ?_
      refine CS.seq ?_
      refine CS.region ?_
      first | (refine RS.q rfl (QO.loadB ty26 (by rfl) (by repeat (first | exact List.Mem.head _ | refine List.Mem.tail _ ?_)) (by rfl)) ?_) | (refine RS.q rfl (QO.loadA ty26 (by rfl) (by repeat (first | exact List.Mem.head _ | refine List.Mem.tail _ ?_)) (by rfl) (by rfl)) ?_) | (refine RS.q rfl (QO.loadOA ty26 (by rfl) (by assumption) (by rfl)) ?_)
      refine RS.call rfl (by rfl) ok21 (by rfl) (fun w ho => frameError f.x f.y f.w f.h f.A f.n f.c _ (hfb f (List.mem_of_getElem? hf))) ?_
      rintro _ _ ⟨rfl, rfl⟩
      refine RS.q rfl (QO.assign) ?_
      refine RS.nil ?_
      refine thenC_n ?_
      refine CS.seq ?_
      refine CS.region ?_
      refine RS.q rfl (QO.move) ?_
      refine RS.q rfl (QO.neq (by rfl) (by rfl)) ?_
      refine RS.nil ?_
      refine thenC_n ?_
      refine CS.cond (by rfl) (fun hb1 => ?_) (fun hb1 => ?_)
      · have hb1p := bne_iff_ne.1 hb1
        refine CS.seq ?_
        refine CS.region ?_
        refine RS.q rfl (QO.build ty26 pl26 (by rfl)) ?_
        refine RS.q rfl (QO.move) ?_
        first | refine RS.storeB ty26 (by rfl) (by rfl) (by rfl) (by rfl) (by rfl) (by repeat (first | exact Upd.head | apply Upd.tail | exact Upd.app _ Upd.head)) (by rfl) ?_ | refine RS.storeP ty26 (by rfl) (by rfl) (by rfl) (by rfl) (by rfl) (by repeat (first | exact Upd.head | apply Upd.tail | exact Upd.app _ Upd.head)) (by rfl) ?_
        refine RS.q rfl (QO.assign) ?_
        refine RS.nil ?_
        refine thenC_n ?_
        refine CS.ret ?_
        refine thenC_r ?_
        refine blockC_r ?_
        refine thenC_r ?_
        refine loopQ_r ?_
        refine blockC_r ?_
        refine thenC_r ?_
        refine retQ.mk (H' := []) (.inr rfl) (RVs.cellA ty26 (by rfl) (by repeat (first | exact List.Mem.head _ | refine List.Mem.tail _ ?_)) (by rfl) (RVs.tmp (by rfl) RVs.nil)) (List.nil_sublist _) ?_
        exact FrR.mkE (hjE.symm.trans (jE_bad (by assumption))) (by assumption)
      · have hb1p := of_bne_false hb1
        refine CS.skip ?_
        refine thenC_n ?_
        refine CS.seq ?_
        refine CS.seq ?_
        refine CS.region ?_
        have hfr : frErr f.x f.y f.w f.h f.n = 0 := by assumption
        have hfo := frErr_ok hfr
        have hrg := regErr_ok hfo.1
        refine RS.q rfl (QO.fieldAddr fo26_0 (by rfl)) ?_
        first | (refine RS.q rfl (QO.loadB ty23 (by rfl) (by repeat (first | exact List.Mem.head _ | refine List.Mem.tail _ ?_)) (by rfl)) ?_) | (refine RS.q rfl (QO.loadA ty23 (by rfl) (by repeat (first | exact List.Mem.head _ | refine List.Mem.tail _ ?_)) (by rfl) (by rfl)) ?_) | (refine RS.q rfl (QO.loadOA ty23 (by rfl) (by assumption) (by rfl)) ?_)
        first | (refine RS.q rfl (QO.loadB ty23 (by rfl) (by repeat (first | exact List.Mem.head _ | refine List.Mem.tail _ ?_)) (by rfl)) ?_) | (refine RS.q rfl (QO.loadA ty23 (by rfl) (by repeat (first | exact List.Mem.head _ | refine List.Mem.tail _ ?_)) (by rfl) (by rfl)) ?_) | (refine RS.q rfl (QO.loadOA ty23 (by rfl) (by assumption) (by rfl)) ?_)
        refine RS.call rfl (by rfl) ok22 (by rfl) (fun w ho => rinside f.x f.y f.w f.h X Y a b _ (by omega) (by omega) (by omega) (by omega) (by omega) (by omega)) ?_
        rintro _ _ ⟨rfl, rfl⟩
        refine RS.q rfl (QO.not (by rfl)) ?_
        refine RS.nil ?_
        refine thenC_n ?_
        refine CS.cond (by rfl) (fun hb2 => ?_) (fun hb2 => ?_)
        · have hb2p := Eq.mp (Bool.not_eq_true' _) hb2
          refine CS.seq ?_
          refine CS.region ?_
          refine RS.q rfl (QO.build ty26 pl26 (by rfl)) ?_
          first | refine RS.storeB ty26 (by rfl) (by rfl) (by rfl) (by rfl) (by rfl) (by repeat (first | exact Upd.head | apply Upd.tail | exact Upd.app _ Upd.head)) (by rfl) ?_ | refine RS.storeP ty26 (by rfl) (by rfl) (by rfl) (by rfl) (by rfl) (by repeat (first | exact Upd.head | apply Upd.tail | exact Upd.app _ Upd.head)) (by rfl) ?_
          refine RS.q rfl (QO.assign) ?_
          refine RS.nil ?_
          refine thenC_n ?_
          refine CS.ret ?_
          refine thenC_r ?_
          refine blockC_r ?_
          refine thenC_r ?_
          refine loopQ_r ?_
          refine blockC_r ?_
          refine thenC_r ?_
          refine retQ.mk (H' := []) (.inr rfl) (RVs.cellA ty26 (by rfl) (by repeat (first | exact List.Mem.head _ | refine List.Mem.tail _ ?_)) (by rfl) (RVs.tmp (by rfl) RVs.nil)) (List.nil_sublist _) ?_
          exact FrR.mkE (hjE.symm.trans (jE_out hfr (by assumption))) (by decide)
        · have hb2p := Eq.mp (Bool.not_eq_false' _) hb2
          refine CS.skip ?_
          refine thenC_n ?_
          refine CS.seq ?_
          refine CS.region ?_
          have hins : insB f.x f.y f.w f.h X Y a b = true := by assumption
          have hx6 := ins_at hfo.1 hins
          obtain ⟨p, q, u, v, hfx, hfy, hfw, hfh, hpu, hqv, hu1, hv1⟩ := hx6
          refine RS.q rfl (QO.fieldAddr fo26_0 (by rfl)) ?_
          refine RS.q rfl (QO.fieldAddr fo23_1 (by rfl)) ?_
          first | (refine RS.q rfl (QO.load ty3 (by rfl) (by repeat (first | exact List.Mem.head _ | refine List.Mem.tail _ ?_)) (by rfl)) ?_) | (refine RS.q rfl (QO.loadO ty3 (by rfl) (by assumption)) ?_) | (refine RS.q rfl (QO.load ty3 (by rfl) (by repeat (first | exact List.Mem.head _ | refine List.Mem.tail _ ?_)) (by assumption)) ?_)
          refine RS.q rfl (QO.assign) ?_
          refine RS.nil ?_
          refine thenC_n ?_
          refine CS.block ?_
          refine CS.loop (X := Nat × Array MapEntry × Nat) (5 :: 11 :: 12 :: 13 :: 14 :: 43 :: 44 :: 45 :: 46 :: 47 :: 48 :: 49 :: 50 :: 51 :: 52 :: 53 :: 54 :: 55 :: 56 :: 57 :: 58 :: 59 :: 60 :: 61 :: 62 :: 63 :: 64 :: 65 :: 66 :: 67 :: 68 :: 69 :: 70 :: 71 :: 72 :: 73 :: 74 :: 75 :: 76 :: 77 :: 78 :: 79 :: 80 :: 81 :: 82 :: 83 :: 84 :: 85 :: []) (fun z => [(11, iv (f.y + (z.1 : Int)))]) (fun z => [⟨g9, 26, [iv f.x, iv f.y, iv f.w, iv f.h, .slice f.A f.n f.c]⟩, ⟨g7, 50, [.map (some g21)]⟩, ⟨g21, .obj (.map z.2.1 z.2.2), []⟩, ⟨g4, 26, [iv 0, iv 0, iv 0, iv 0, .slice none 0 0]⟩, ⟨g2, 23, [iv X, iv Y, iv (a : Int), iv (b : Int)]⟩]) (fun z => z.1 ≤ v ∧ jFree a p u q z.1 0 s ∧ MapOK Try.prog 55 z.2.1 z.2.2 ∧ JM X Y a b z.2.1 (jMid X Y a f s p u q z.1 0)) (fun z => v - z.1) (0, es, clk) ⟨Nat.zero_le _, jFree_zero a p u q s, hok, hJM.cast jMid_zero.symm⟩ ?_ ?_ ?_
          · exact kn_cons (congrArg iv (by simp)) kn_nil
          · exact (by repeat (first | exact List.Sublist.refl _ | exact List.nil_sublist _ | refine List.Sublist.cons_cons _ ?_ | refine List.Sublist.cons _ ?_ | exact Sbp.refl | exact Sbp.nil | refine Sbp.cons (by repeat (first | exact Rem.head | apply Rem.tail)) ?_ | exact Sbp.app | refine Sbp.skip ?_ | exact List.sublist_append_left _ _ | exact List.sublist_append_right _ _))
          · intro z gj14 hz
            obtain ⟨j, es2, clk2⟩ := z
            obtain ⟨hj, hfree, hok2, hJM2⟩ := hz
            simp only at hj hfree hok2 hJM2
            show CS _ _ _ _ _ (puts (mix _ _ _) [(11, iv (f.y + (j : Int)))]) ([⟨g9, 26, [iv f.x, iv f.y, iv f.w, iv f.h, .slice f.A f.n f.c]⟩, ⟨g7, 50, [.map (some g21)]⟩, ⟨g21, .obj (.map es2 clk2), []⟩, ⟨g4, 26, [iv 0, iv 0, iv 0, iv 0, .slice none 0 0]⟩, ⟨g2, 23, [iv X, iv Y, iv (a : Int), iv (b : Int)]⟩])
            refine CS.seq ?_
            refine CS.seq ?_
            refine CS.region ?_
            refine RS.q rfl (QO.move) ?_
            refine RS.q rfl (QO.fieldAddr fo26_0 (by rfl)) ?_
            refine RS.q rfl (QO.fieldAddr fo23_1 (by rfl)) ?_
            first | (refine RS.q rfl (QO.load ty3 (by rfl) (by repeat (first | exact List.Mem.head _ | refine List.Mem.tail _ ?_)) (by rfl)) ?_) | (refine RS.q rfl (QO.loadO ty3 (by rfl) (by assumption)) ?_) | (refine RS.q rfl (QO.load ty3 (by rfl) (by repeat (first | exact List.Mem.head _ | refine List.Mem.tail _ ?_)) (by assumption)) ?_)
            refine RS.q rfl (QO.fieldAddr fo26_0 (by rfl)) ?_
            refine RS.q rfl (QO.fieldAddr fo23_3 (by rfl)) ?_
            first | (refine RS.q rfl (QO.load ty3 (by rfl) (by repeat (first | exact List.Mem.head _ | refine List.Mem.tail _ ?_)) (by rfl)) ?_) | (refine RS.q rfl (QO.loadO ty3 (by rfl) (by assumption)) ?_) | (refine RS.q rfl (QO.load ty3 (by rfl) (by repeat (first | exact List.Mem.head _ | refine List.Mem.tail _ ?_)) (by assumption)) ?_)
            first | (refine RS.q rfl (QO.add (by rfl) (by rfl) (by omega) (by omega)) ?_) | (refine RS.q rfl (QO.ibin (by rfl) (by rfl) trivial) ?_)
            refine RS.q rfl (QO.lss (by rfl) (by rfl)) ?_
            refine RS.nil ?_
            refine thenC_n ?_
            refine CS.cond (by rfl) (fun hb3 => ?_) (fun hb3 => ?_)
            · have hb3p := of_decide_eq_true hb3
              refine CS.skip ?_
              refine thenC_n ?_
              refine CS.seq ?_
              refine CS.block ?_
              refine CS.seq ?_
              refine CS.region ?_
              refine RS.q rfl (QO.fieldAddr fo26_0 (by rfl)) ?_
              refine RS.q rfl (QO.fieldAddr fo23_0 (by rfl)) ?_
              first | (refine RS.q rfl (QO.load ty3 (by rfl) (by repeat (first | exact List.Mem.head _ | refine List.Mem.tail _ ?_)) (by rfl)) ?_) | (refine RS.q rfl (QO.loadO ty3 (by rfl) (by assumption)) ?_) | (refine RS.q rfl (QO.load ty3 (by rfl) (by repeat (first | exact List.Mem.head _ | refine List.Mem.tail _ ?_)) (by assumption)) ?_)
              refine RS.q rfl (QO.assign) ?_
              refine RS.nil ?_
              refine thenC_n ?_
              refine CS.block ?_
              have hjv : j < v := by omega
              refine CS.loop (X := Nat × Array MapEntry × Nat) (5 :: 12 :: 13 :: 14 :: 57 :: 58 :: 59 :: 60 :: 61 :: 62 :: 63 :: 64 :: 65 :: 66 :: 67 :: 68 :: 69 :: 70 :: 71 :: 72 :: 73 :: 74 :: 75 :: 76 :: 77 :: 78 :: 79 :: 80 :: 81 :: 82 :: 83 :: 84 :: 85 :: []) (fun z => [(12, iv (f.x + (z.1 : Int)))]) (fun z => [⟨g9, 26, [iv f.x, iv f.y, iv f.w, iv f.h, .slice f.A f.n f.c]⟩, ⟨g7, 50, [.map (some g21)]⟩, ⟨g21, .obj (.map z.2.1 z.2.2), []⟩, ⟨g4, 26, [iv 0, iv 0, iv 0, iv 0, .slice none 0 0]⟩, ⟨g2, 23, [iv X, iv Y, iv (a : Int), iv (b : Int)]⟩]) (fun z => z.1 ≤ u ∧ jFree a p u q j z.1 s ∧ MapOK Try.prog 55 z.2.1 z.2.2 ∧ JM X Y a b z.2.1 (jMid X Y a f s p u q j z.1)) (fun z => u - z.1) (0, es2, clk2) ⟨Nat.zero_le _, hfree, hok2, hJM2⟩ ?_ ?_ ?_
              · exact kn_cons (congrArg iv (by simp)) kn_nil
              · exact (by repeat (first | exact List.Sublist.refl _ | exact List.nil_sublist _ | refine List.Sublist.cons_cons _ ?_ | refine List.Sublist.cons _ ?_ | exact Sbp.refl | exact Sbp.nil | refine Sbp.cons (by repeat (first | exact Rem.head | apply Rem.tail)) ?_ | exact Sbp.app | refine Sbp.skip ?_ | exact List.sublist_append_left _ _ | exact List.sublist_append_right _ _))
              · intro z gj17 hz
                obtain ⟨i, es3, clk3⟩ := z
                obtain ⟨hi, hfre2, hok3, hJM3⟩ := hz
                simp only at hi hfre2 hok3 hJM3
                show CS _ _ _ _ _ (puts (mix _ _ _) [(12, iv (f.x + (i : Int)))]) ([⟨g9, 26, [iv f.x, iv f.y, iv f.w, iv f.h, .slice f.A f.n f.c]⟩, ⟨g7, 50, [.map (some g21)]⟩, ⟨g21, .obj (.map es3 clk3), []⟩, ⟨g4, 26, [iv 0, iv 0, iv 0, iv 0, .slice none 0 0]⟩, ⟨g2, 23, [iv X, iv Y, iv (a : Int), iv (b : Int)]⟩])
                refine CS.seq ?_
                refine CS.seq ?_
                refine CS.region ?_
                refine RS.q rfl (QO.move) ?_
                refine RS.q rfl (QO.fieldAddr fo26_0 (by rfl)) ?_
                refine RS.q rfl (QO.fieldAddr fo23_0 (by rfl)) ?_
                first | (refine RS.q rfl (QO.load ty3 (by rfl) (by repeat (first | exact List.Mem.head _ | refine List.Mem.tail _ ?_)) (by rfl)) ?_) | (refine RS.q rfl (QO.loadO ty3 (by rfl) (by assumption)) ?_) | (refine RS.q rfl (QO.load ty3 (by rfl) (by repeat (first | exact List.Mem.head _ | refine List.Mem.tail _ ?_)) (by assumption)) ?_)
                refine RS.q rfl (QO.fieldAddr fo26_0 (by rfl)) ?_
                refine RS.q rfl (QO.fieldAddr fo23_2 (by rfl)) ?_
                first | (refine RS.q rfl (QO.load ty3 (by rfl) (by repeat (first | exact List.Mem.head _ | refine List.Mem.tail _ ?_)) (by rfl)) ?_) | (refine RS.q rfl (QO.loadO ty3 (by rfl) (by assumption)) ?_) | (refine RS.q rfl (QO.load ty3 (by rfl) (by repeat (first | exact List.Mem.head _ | refine List.Mem.tail _ ?_)) (by assumption)) ?_)
                first | (refine RS.q rfl (QO.add (by rfl) (by rfl) (by omega) (by omega)) ?_) | (refine RS.q rfl (QO.ibin (by rfl) (by rfl) trivial) ?_)
                refine RS.q rfl (QO.lss (by rfl) (by rfl)) ?_
                refine RS.nil ?_
                refine thenC_n ?_
                refine CS.cond (by rfl) (fun hb4 => ?_) (fun hb4 => ?_)
                · have hb4p := of_decide_eq_true hb4
                  refine CS.skip ?_
                  refine thenC_n ?_
                  refine CS.seq ?_
                  refine CS.block ?_
                  refine CS.seq ?_
                  refine CS.seq ?_
                  by_cases hsp19 : (jMid X Y a f s p u q j i).cov (a * (q + j) + (p + i)) = true
                  · refine CS.region ?_
                    have hiu : i < u := by omega
                    have hxk := pt_key (x := f.x + (i : Int)) (y := f.y + (j : Int)) (by omega) (by omega)
                    obtain ⟨kl, hkey⟩ := hxk
                    have hget := hJM3.1 (p + i) (q + j) (by omega) (by omega)
                    rw [show X + ((p + i : Nat) : Int) = f.x + (i : Int) by omega, show Y + ((q + j : Nat) : Int) = f.y + (j : Int) by omega] at hget
                    rw [if_pos hsp19] at hget
                    first | (refine RS.q rfl (QO.load ty50 (by rfl) (by repeat (first | exact List.Mem.head _ | refine List.Mem.tail _ ?_)) (by rfl)) ?_) | (refine RS.q rfl (QO.loadO ty50 (by rfl) (by assumption)) ?_) | (refine RS.q rfl (QO.load ty50 (by rfl) (by repeat (first | exact List.Mem.head _ | refine List.Mem.tail _ ?_)) (by assumption)) ?_)
                    refine RS.q rfl (QO.move) ?_
                    refine RS.q rfl (QO.move) ?_
                    refine RS.qv rfl (QO.build ty55 pl55 (by rfl)) ((show _ = (ptv (f.x + (i : Int)) (f.y + (j : Int))) from rfl)) ?_
                    refine RS.qv rfl (QO.look ptK Try.underlying50 z52 (.inr ⟨_, (by repeat (first | exact List.Mem.head _ | refine List.Mem.tail _ ?_))⟩) hok3 (by rfl) (by rfl) hkey) ((show lookV true _ (mg es3 (ptv (f.x + (i : Int)) (f.y + (j : Int)))) = Value.tuple #[pxv (fun c => (jMid X Y a f s p u q j i).V (4 * (a * (q + j) + (p + i)) + c)), .bool true] from by rw [hget]; rfl)) ?_
                    refine RS.q rfl (QO.move) ?_
                    refine RS.q rfl (QO.extract (by rfl) (by rfl)) ?_
                    refine RS.q rfl (QO.extract (by rfl) (by rfl)) ?_
                    refine RS.alloc rfl ty52 ?_
                    intro g13
                    first | refine RS.storeB ty52 (by rfl) (by rfl) (by rfl) (by rfl) (by rfl) (by repeat (first | exact Upd.head | apply Upd.tail | exact Upd.app _ Upd.head)) (by rfl) ?_ | refine RS.storeP ty52 (by rfl) (by rfl) (by rfl) (by rfl) (by rfl) (by repeat (first | exact Upd.head | apply Upd.tail | exact Upd.app _ Upd.head)) (by rfl) ?_
                    refine RS.q rfl (QO.assign) ?_
                    refine RS.nil ?_
                    refine thenC_n ?_
                    refine CS.seq ?_
                    refine CS.region ?_
                    refine RS.q rfl (QO.move) ?_
                    refine RS.nil ?_
                    refine thenC_n ?_
                    refine CS.condT (by rfl) rfl ?_
                    refine CS.seq ?_
                    refine CS.region ?_
                    refine RS.q rfl (QO.build ty26 pl26 (by rfl)) ?_
                    first | refine RS.storeB ty26 (by rfl) (by rfl) (by rfl) (by rfl) (by rfl) (by repeat (first | exact Upd.head | apply Upd.tail | exact Upd.app _ Upd.head)) (by rfl) ?_ | refine RS.storeP ty26 (by rfl) (by rfl) (by rfl) (by rfl) (by rfl) (by repeat (first | exact Upd.head | apply Upd.tail | exact Upd.app _ Upd.head)) (by rfl) ?_
                    refine RS.q rfl (QO.assign) ?_
                    refine RS.nil ?_
                    refine thenC_n ?_
                    refine CS.ret ?_
                    refine thenC_r ?_
                    refine blockC_r ?_
                    refine thenC_r ?_
                    refine loopQ_r ?_
                    refine blockC_r ?_
                    refine blockC_r ?_
                    refine thenC_r ?_
                    refine loopQ_r ?_
                    refine blockC_r ?_
                    refine blockC_r ?_
                    refine thenC_r ?_
                    refine loopQ_r ?_
                    refine blockC_r ?_
                    refine thenC_r ?_
                    refine retQ.mk (H' := []) (.inr rfl) (RVs.cellA ty26 (by rfl) (by repeat (first | exact List.Mem.head _ | refine List.Mem.tail _ ?_)) (by rfl) (RVs.tmp (by rfl) RVs.nil)) (List.nil_sublist _) ?_
                    exact FrR.mkE (hjE.symm.trans (jE_hit hfr hins (jHit_of hfx hfy hfw hfh hpu hqv hjv hiu hsp19))) (by decide)
                  · refine CS.region ?_
                    have hiu : i < u := by omega
                    have hxk := pt_key (x := f.x + (i : Int)) (y := f.y + (j : Int)) (by omega) (by omega)
                    obtain ⟨kl, hkey⟩ := hxk
                    have hget := hJM3.1 (p + i) (q + j) (by omega) (by omega)
                    rw [show X + ((p + i : Nat) : Int) = f.x + (i : Int) by omega, show Y + ((q + j : Nat) : Int) = f.y + (j : Int) by omega] at hget
                    rw [if_neg hsp19] at hget
                    first | (refine RS.q rfl (QO.load ty50 (by rfl) (by repeat (first | exact List.Mem.head _ | refine List.Mem.tail _ ?_)) (by rfl)) ?_) | (refine RS.q rfl (QO.loadO ty50 (by rfl) (by assumption)) ?_) | (refine RS.q rfl (QO.load ty50 (by rfl) (by repeat (first | exact List.Mem.head _ | refine List.Mem.tail _ ?_)) (by assumption)) ?_)
                    refine RS.q rfl (QO.move) ?_
                    refine RS.q rfl (QO.move) ?_
                    refine RS.qv rfl (QO.build ty55 pl55 (by rfl)) ((show _ = (ptv (f.x + (i : Int)) (f.y + (j : Int))) from rfl)) ?_
                    refine RS.qv rfl (QO.look ptK Try.underlying50 z52 (.inr ⟨_, (by repeat (first | exact List.Mem.head _ | refine List.Mem.tail _ ?_))⟩) hok3 (by rfl) (by rfl) hkey) ((show lookV true (Value.agg #[flt 0, flt 0, flt 0, flt 0]) (mg es3 (ptv (f.x + (i : Int)) (f.y + (j : Int)))) = Value.tuple #[.agg #[flt 0, flt 0, flt 0, flt 0], .bool false] from by rw [hget]; rfl)) ?_
                    refine RS.q rfl (QO.move) ?_
                    refine RS.q rfl (QO.extract (by rfl) (by rfl)) ?_
                    refine RS.q rfl (QO.extract (by rfl) (by rfl)) ?_
                    refine RS.alloc rfl ty52 ?_
                    intro g13
                    first | refine RS.storeB ty52 (by rfl) (by rfl) (by rfl) (by rfl) (by rfl) (by repeat (first | exact Upd.head | apply Upd.tail | exact Upd.app _ Upd.head)) (by rfl) ?_ | refine RS.storeP ty52 (by rfl) (by rfl) (by rfl) (by rfl) (by rfl) (by repeat (first | exact Upd.head | apply Upd.tail | exact Upd.app _ Upd.head)) (by rfl) ?_
                    refine RS.q rfl (QO.assign) ?_
                    refine RS.nil ?_
                    refine thenC_n ?_
                    refine CS.seq ?_
                    refine CS.region ?_
                    refine RS.q rfl (QO.move) ?_
                    refine RS.nil ?_
                    refine thenC_n ?_
                    refine CS.condF (by rfl) rfl ?_
                    refine CS.skip ?_
                    refine thenC_n ?_
                    refine CS.draw 8 rfl (by kernel_rfl) (by kernel_rfl) ?_
                    first | (refine RT.take (i := 0) rfl (by kernel_rfl) rfl (QO.load ty50 (by rfl) (by repeat (first | exact List.Mem.head _ | refine List.Mem.tail _ ?_)) (by rfl)) ?_) | (refine RT.take (i := 0) rfl (by kernel_rfl) rfl (QO.loadO ty50 (by rfl) (by assumption)) ?_) | (refine RT.take (i := 0) rfl (by kernel_rfl) rfl (QO.load ty50 (by rfl) (by repeat (first | exact List.Mem.head _ | refine List.Mem.tail _ ?_)) (by assumption)) ?_)
                    refine RT.take (i := 1) rfl (by kernel_rfl) rfl (QO.move) ?_
                    refine RT.take (i := 2) rfl (by kernel_rfl) rfl (QO.move) ?_
                    refine RT.takev (i := 3) rfl (by kernel_rfl) rfl (QO.build ty55 pl55 (by rfl)) ((show _ = (ptv (f.x + (i : Int)) (f.y + (j : Int))) from rfl)) ?_
                    first | (refine RT.take (i := 4) rfl (by kernel_rfl) rfl (QO.loadB ty26 (by rfl) (by repeat (first | exact List.Mem.head _ | refine List.Mem.tail _ ?_)) (by rfl)) ?_) | (refine RT.take (i := 4) rfl (by kernel_rfl) rfl (QO.loadA ty26 (by rfl) (by repeat (first | exact List.Mem.head _ | refine List.Mem.tail _ ?_)) (by rfl) (by rfl)) ?_) | (refine RT.take (i := 4) rfl (by kernel_rfl) rfl (QO.loadOA ty26 (by rfl) (by assumption) (by rfl)) ?_)
                    refine RT.take (i := 5) rfl (by kernel_rfl) rfl (QO.move) ?_
                    refine RT.take (i := 6) rfl (by kernel_rfl) rfl (QO.move) ?_
                    refine RT.one (i := 7) (by kernel_rfl) rfl rfl ?_
                    refine RS.call rfl (by rfl) ok23 (by rfl) (fun w ho => pixJ f u v (f.x + (i : Int)) (f.y + (j : Int)) _ hzl (hFS.own ho) hfo.2 hnc hfw hfh (by omega) (by omega) (by omega) (by omega)) ?_
                    rintro _ _ ⟨rfl, rfl⟩
                    refine RS.nil ⟨(by repeat (first | exact List.Sublist.refl _ | exact List.nil_sublist _ | refine List.Sublist.cons_cons _ ?_ | refine List.Sublist.cons _ ?_ | exact Sbp.refl | exact Sbp.nil | refine Sbp.cons (by repeat (first | exact Rem.head | apply Rem.tail)) ?_ | exact Sbp.app | refine Sbp.skip ?_ | exact List.sublist_append_left _ _ | exact List.sublist_append_right _ _)), ?_⟩
                    refine RT.tail (i := 8) (by kernel_rfl) rfl rfl ?_
                    refine RS.mapPut ptK rfl Try.underlying50 (by repeat (first | exact Rem.head | apply Rem.tail)) hok3 (by rfl) (by rfl) hkey (by rfl) ?_
                    intro es4 clk4 hok4 ho4 hs4 hsz4
                    refine RS.nil ?_
                    refine RT.done (by kernel_rfl) ?_
                    refine blockC_n ?_
                    refine thenC_n ?_
                    refine CS.region ?_
                    refine RS.q rfl (QO.move) ?_
                    first | (refine RS.q rfl (QO.add (by rfl) (by rfl) (by omega) (by omega)) ?_) | (refine RS.q rfl (QO.ibin (by rfl) (by rfl) trivial) ?_)
                    refine RS.q rfl (QO.assign) ?_
                    refine RS.nil ?_
                    refine loopQ_n (by intro t ht; repeat (first | with_reducible exact rfl | exact frame_puts ht (frame_mix ht) _ rfl | (refine frame_put rfl ht ?_) | (refine frame_puts ht ?_ _ rfl) | exact frame_mix ht | (refine frame_mix2 rfl ht ?_) | exact rfl)) ?_
                    have hcf := eq_false_of_ne_true hsp19
                    exact ⟨(i + 1, es4, clk4), ⟨by show i + 1 ≤ u; omega, jFree_step hpu hiu hfre2 hcf, hok4, hJM3.put hpu hqv hjv hiu hfx hfy hfw hfh hcf ho4 hs4 hsz4⟩, by show u - (i + 1) < u - i; omega, kn_cons (congrArg iv (by show f.x + (i : Int) + 1 = f.x + ((i + 1 : Nat) : Int); omega)) kn_nil, (by repeat (first | exact List.Sublist.refl _ | exact List.nil_sublist _ | refine List.Sublist.cons_cons _ ?_ | refine List.Sublist.cons _ ?_ | exact Sbp.refl | exact Sbp.nil | refine Sbp.cons (by repeat (first | exact Rem.head | apply Rem.tail)) ?_ | exact Sbp.app | refine Sbp.skip ?_ | exact List.sublist_append_left _ _ | exact List.sublist_append_right _ _))⟩
                · have hb4p := of_decide_eq_false hb4
                  refine CS.exit ?_
                  refine thenC_x ?_
                  refine loopQ_x ?_
                  refine blockC_x ?_
                  refine blockC_n ?_
                  refine thenC_n ?_
                  refine CS.region ?_
                  refine RS.q rfl (QO.move) ?_
                  first | (refine RS.q rfl (QO.add (by rfl) (by rfl) (by omega) (by omega)) ?_) | (refine RS.q rfl (QO.ibin (by rfl) (by rfl) trivial) ?_)
                  refine RS.q rfl (QO.assign) ?_
                  refine RS.nil ?_
                  refine loopQ_n (by intro t ht; repeat (first | with_reducible exact rfl | exact frame_puts ht (frame_mix ht) _ rfl | (refine frame_put rfl ht ?_) | (refine frame_puts ht ?_ _ rfl) | exact frame_mix ht | (refine frame_mix2 rfl ht ?_) | exact rfl)) ?_
                  have hie : i = u := by omega
                  have hM : (jMid X Y a f s p u q j i) = (jMid X Y a f s p u q (j + 1) 0) := by rw [hie]; exact jMid_row
                  exact ⟨(j + 1, es3, clk3), ⟨by show j + 1 ≤ v; omega, jFree_row (hie ▸ hfre2), hok3, hJM3.cast hM⟩, by show v - (j + 1) < v - j; omega, kn_cons (congrArg iv (by show f.y + (j : Int) + 1 = f.y + ((j + 1 : Nat) : Int); omega)) kn_nil, (by repeat (first | exact List.Sublist.refl _ | exact List.nil_sublist _ | refine List.Sublist.cons_cons _ ?_ | refine List.Sublist.cons _ ?_ | exact Sbp.refl | exact Sbp.nil | refine Sbp.cons (by repeat (first | exact Rem.head | apply Rem.tail)) ?_ | exact Sbp.app | refine Sbp.skip ?_ | exact List.sublist_append_left _ _ | exact List.sublist_append_right _ _))⟩
            · have hb3p := of_decide_eq_false hb3
              refine CS.exit ?_
              refine thenC_x ?_
              refine loopQ_x ?_
              refine blockC_x ?_
              refine blockC_n ?_
              refine thenC_n ?_
              refine CS.region ?_
              first | (refine RS.q rfl (QO.add (by rfl) (by rfl) (by omega) (by omega)) ?_) | (refine RS.q rfl (QO.ibin (by rfl) (by rfl) trivial) ?_)
              refine RS.q rfl (QO.move) ?_
              refine RS.nil ?_
              refine loopQ_n (by intro t ht; repeat (first | with_reducible exact rfl | exact frame_puts ht (frame_mix ht) _ rfl | (refine frame_put rfl ht ?_) | (refine frame_puts ht ?_ _ rfl) | exact frame_mix ht | (refine frame_mix2 rfl ht ?_) | exact rfl)) ?_
              have hjv9 : j = v := by omega
              have hM : (jMid X Y a f s p u q j 0) = jStep X Y a f s := by rw [hjv9]; exact jMid_all hfx hfy hfw hfh
              have hht := jHit_no (b := b) hfx hfy hfw hfh (hjv9 ▸ hfree)
              rw [jE_cons hfr hins hht] at hjE
              exact ⟨(k + 1, jStep X Y a f s, es2, clk2), ⟨by show k + 1 ≤ fs.length; omega, hjE, hjV, hok2, hJM2.cast hM⟩, by show fs.length - (k + 1) < fs.length - k; omega, kn_cons (by rfl) kn_nil, (by repeat (first | exact List.Sublist.refl _ | exact List.nil_sublist _ | refine List.Sublist.cons_cons _ ?_ | refine List.Sublist.cons _ ?_ | exact Sbp.refl | exact Sbp.nil | refine Sbp.cons (by repeat (first | exact Rem.head | apply Rem.tail)) ?_ | exact Sbp.app | refine Sbp.skip ?_ | exact List.sublist_append_left _ _ | exact List.sublist_append_right _ _))⟩
    · have hb0p := of_decide_eq_false hb0
      refine CS.exit ?_
      refine thenC_x ?_
      refine loopQ_x ?_
      refine blockC_x ?_
      refine thenC_n ?_
      refine CS.seq ?_
      refine CS.seq ?_
      refine CS.region ?_
      have hcl := cntC_le s.cov (a * b)
      first | (refine RS.q rfl (QO.load ty50 (by rfl) (by repeat (first | exact List.Mem.head _ | refine List.Mem.tail _ ?_)) (by rfl)) ?_) | (refine RS.q rfl (QO.loadO ty50 (by rfl) (by assumption)) ?_) | (refine RS.q rfl (QO.load ty50 (by rfl) (by repeat (first | exact List.Mem.head _ | refine List.Mem.tail _ ?_)) (by assumption)) ?_)
      refine RS.qv rfl (QO.lenM Try.underlying50 (.inr ⟨_, (by repeat (first | exact List.Mem.head _ | refine List.Mem.tail _ ?_))⟩) (by rfl)) (congrArg iv (congrArg Nat.cast hJM.2)) ?_
      refine RS.q rfl (QO.fieldAddr fo23_2 (by rfl)) ?_
      first | (refine RS.q rfl (QO.load ty3 (by rfl) (by repeat (first | exact List.Mem.head _ | refine List.Mem.tail _ ?_)) (by rfl)) ?_) | (refine RS.q rfl (QO.loadO ty3 (by rfl) (by assumption)) ?_) | (refine RS.q rfl (QO.load ty3 (by rfl) (by repeat (first | exact List.Mem.head _ | refine List.Mem.tail _ ?_)) (by assumption)) ?_)
      refine RS.q rfl (QO.fieldAddr fo23_3 (by rfl)) ?_
      first | (refine RS.q rfl (QO.load ty3 (by rfl) (by repeat (first | exact List.Mem.head _ | refine List.Mem.tail _ ?_)) (by rfl)) ?_) | (refine RS.q rfl (QO.loadO ty3 (by rfl) (by assumption)) ?_) | (refine RS.q rfl (QO.load ty3 (by rfl) (by repeat (first | exact List.Mem.head _ | refine List.Mem.tail _ ?_)) (by assumption)) ?_)
      refine RS.qv rfl (QO.mul (by rfl) (by rfl) (by rw [← hrc]; omega) (by rw [← hrc]; omega)) (congrArg iv (show (a : Int) * (b : Int) = ((a * b : Nat) : Int) from hrc.symm)) ?_
      refine RS.q rfl (QO.lss (by rfl) (by rfl)) ?_
      refine RS.nil ?_
      refine thenC_n ?_
      refine CS.cond (by rfl) (fun hb5 => ?_) (fun hb5 => ?_)
      · have hb5p := of_decide_eq_true hb5
        refine CS.seq ?_
        refine CS.region ?_
        refine RS.q rfl (QO.build ty26 pl26 (by rfl)) ?_
        first | refine RS.storeB ty26 (by rfl) (by rfl) (by rfl) (by rfl) (by rfl) (by repeat (first | exact Upd.head | apply Upd.tail | exact Upd.app _ Upd.head)) (by rfl) ?_ | refine RS.storeP ty26 (by rfl) (by rfl) (by rfl) (by rfl) (by rfl) (by repeat (first | exact Upd.head | apply Upd.tail | exact Upd.app _ Upd.head)) (by rfl) ?_
        refine RS.q rfl (QO.assign) ?_
        refine RS.nil ?_
        refine thenC_n ?_
        refine CS.ret ?_
        refine thenC_r ?_
        refine retQ.mk (H' := []) (.inr rfl) (RVs.cellA ty26 (by rfl) (by repeat (first | exact List.Mem.head _ | refine List.Mem.tail _ ?_)) (by rfl) (RVs.tmp (by rfl) RVs.nil)) (List.nil_sublist _) ?_
        exact FrR.mkE (hjE.symm.trans (jE_end10 (by omega) (by omega))) (by decide)
      · have hb5p := of_decide_eq_false hb5
        refine CS.skip ?_
        refine thenC_n ?_
        refine CS.seq ?_
        refine CS.region ?_
        have hcov := cntC_all.1 (show cntC s.cov (a * b) = a * b by omega)
        first | (refine RS.q rfl (QO.loadB ty23 (by rfl) (by repeat (first | exact List.Mem.head _ | refine List.Mem.tail _ ?_)) (by rfl)) ?_) | (refine RS.q rfl (QO.loadA ty23 (by rfl) (by repeat (first | exact List.Mem.head _ | refine List.Mem.tail _ ?_)) (by rfl) (by rfl)) ?_) | (refine RS.q rfl (QO.loadOA ty23 (by rfl) (by assumption) (by rfl)) ?_)
        refine RS.q rfl (QO.makeFunc) ?_
        refine RS.call rfl (by rfl) ok24 (by rfl) (fun w ho => made' X Y a b 25 #[.pointer (some ⟨g7, 0, none⟩)] (jP X Y a s) _ (by kernel_rfl) ha hb hX hY (fun wd Hd hd x y hx1 hx2 hy1 hy2 => by
    obtain ⟨kl, hkey⟩ := pt_key (x := x) (y := y) (by omega) (by omega)
    have hg7 := ho.cell0 (g := g7) (j := 0) (by repeat (first | exact List.Mem.head _ | refine List.Mem.tail _ ?_)) rfl
    refine rjoin1 x y g7 g21 es clk (jP X Y a s x y) kl wd (hd.old hg7) (MapAt.at_ (.inl (MapAt.at_ (.inr ⟨_, (by repeat (first | exact List.Mem.head _ | refine List.Mem.tail _ ?_))⟩) ho)) hd) hok hkey ?_
    have h9 := hJM.1 (x - X).toNat (y - Y).toNat (by omega) (by omega)
    rw [show X + (((x - X).toNat : Nat) : Int) = x by omega, show Y + (((y - Y).toNat : Nat) : Int) = y by omega, if_pos (hcov _ (at_bd (by omega) (by omega)))] at h9
    exact h9)) ?_
        intro v98 H98 hv98
        obtain ⟨gz, cz, jz, rfl, rfl, hcz1, hcz2⟩ := hv98
        first | refine RS.storeB ty26 (by rfl) (by rfl) (by rfl) (by rfl) (by rfl) (by repeat (first | exact Upd.head | apply Upd.tail | exact Upd.app _ Upd.head)) (by rfl) ?_ | refine RS.storeP ty26 (by rfl) (by rfl) (by rfl) (by rfl) (by rfl) (by repeat (first | exact Upd.head | apply Upd.tail | exact Upd.app _ Upd.head)) (by rfl) ?_
        refine RS.q rfl (QO.assign) ?_
        refine RS.nil ?_
        refine thenC_n ?_
        refine CS.ret ?_
        refine retQ.mk (H' := [⟨gz, 43, (madeV (jP X Y a s) X Y a (4 * (a * b))).map flt ++ jz⟩]) (.inr rfl) (RVs.cellA ty26 (by rfl) (by repeat (first | exact List.Mem.head _ | refine List.Mem.tail _ ?_)) (by rfl) (RVs.tmp (by rfl) RVs.nil)) (by repeat (first | exact List.Sublist.refl _ | exact List.nil_sublist _ | refine List.Sublist.cons_cons _ ?_ | refine List.Sublist.cons _ ?_ | exact Sbp.refl | exact Sbp.nil | refine Sbp.cons (by repeat (first | exact Rem.head | apply Rem.tail)) ?_ | exact Sbp.app | refine Sbp.skip ?_ | exact List.sublist_append_left _ _ | exact List.sublist_append_right _ _)) ?_
        have hv9 : madeV (jP X Y a s) X Y a (4 * (a * b)) = jVals (jEnd X Y a fs js0) (a * b) := by rw [← hjV, jEnd_end (by omega)]; exact jP_made
        exact .inl ⟨hjE.symm.trans (jE_end0 (by omega) (by omega)), gz, cz, jz, by rw [← hv9]; rfl, by rw [← hv9], by rw [← hv9]; exact hcz1, hcz2⟩

theorem rjoin_ (X Y w_ h_ : Int) (A : Option Addr) (c : Nat) (fs : List FrS) (W : World) (hA : FsL W A fs) (hm : fs.length ≤ maxLen) (hfb : ∀ f ∈ fs, -9223372036854775808 ≤ f.x ∧ f.x ≤ 9223372036854775807) (bx : -9223372036854775808 ≤ X ∧ X ≤ 9223372036854775807) : Fn_ Try.prog 7 #[.agg #[iv X, iv Y, iv w_, iv h_], .slice A fs.length c] W (fun v H => FrR (jErr X Y w_ h_ fs) X Y w_ h_ (jVals (jEnd X Y w_.toNat fs js0) (w_.toNat * h_.toNat)) v H) := by
  by_cases h : regErr X Y w_ h_ = 0
  · have hr := regErr_ok h
    have e : jErr X Y w_ h_ fs = jE X Y w_.toNat h_.toNat fs js0 := by unfold jErr; rw [if_neg (by rw [h]; decide)]
    have e1 : ((w_.toNat : Nat) : Int) = w_ := by omega
    have e2 : ((h_.toNat : Nat) : Int) = h_ := by omega
    have h9 := rjoinOk X Y w_.toNat h_.toNat A c fs W hA hm hfb (by rw [e1, e2]; exact h)
    rw [e1, e2] at h9
    rw [e]; exact h9
  · exact rjoinBad X Y w_ h_ A c fs W hA hm bx h

end Go.Proofs.Ytdfbeigjinhgiaa

namespace Go.Proofs.Ytdfbeigjinhgiaa
open Go Go.Proofs Go.RowKit

theorem ty27 : tyChk Try.prog 27 = some ([.slice none 0 0], false, 24) := by kernel_rfl
theorem ok28 : callOK Try.prog 28 = true := by kernel_rfl

section
variable {P : Program} {W : World} {n : Nat} {ops : Array Oper} {Q : Env → HL → Prop} {rest : List Oper} {e : Env} {H : HL}
variable {d : Tmp} {ty t t2 : TypeId} {pos : String} {af : Array Edge} {x y : Operand} {z : List Value} {ag : Bool} {by_ : Nat}
/-- nothing appended -/
theorem QO.appendE {el : TypeId} {B A : Option Addr} {l c0 c : Nat} (hu : P.underlying t = some (.slice el)) (he : tyChk P el = some (z, ag, by_)) (hx : ev e x = .slice B l c0) (hlc : l ≤ c0) (hy : ev e y = .slice A 0 c) :
    QO P W H e (.call ⟨.builtin .append, #[x, y], #[t, t]⟩) ty (.slice B l c0) := fun d pos af gd w ho => by
  obtain ⟨i, zv, ds, hi, _⟩ := (tyF he).ex
  have h1 : (Builtin.append_ #[t, t] ty #[.slice B l c0, .slice A 0 c]).run P w = .ok (.slice B l c0) w := by
    cases A <;> cases B <;> simp [Builtin.append_, run_underlying hu, sizeOf, typeInfo, hi, Builtin.lenOf, Builtin.firstCells, storeCells, loadCells, loadCellsFrom, hlc]
  simp only [execOp, resolve, invoke, builtin, Sem.run_bind, Sem.run_pure, Result.andThen_ok, List.map_toArray, List.map_cons, List.map_nil, hx, hy, h1]
theorem QO.capS {a : Option Addr} {l c : Nat} {el : TypeId} (hu : P.underlying t = some (.slice el)) (hx : ev e x = .slice a l c) : QO P W H e (.call ⟨.builtin .cap, #[x], #[t]⟩) ty (.int .i64 c) := fun d pos af gd w _ => by
  simp [execOp, resolve, invoke, builtin, Builtin.cap_, hx, run_underlying hu, goInt]
/-- zeros, onto nothing -/
theorem RS.appendZ {el : TypeId} {m : Nat} (hd : Nat.blt d n = true) (hu : P.underlying t = some (.slice el)) (he : tyChk P el = some (z, ag, by_)) (hu2 : P.underlying t2 = some (.int .i64)) (hx : ev e x = .slice none 0 0) (hy : ev e y = .int .i64 (m : Int))
    (hm : 0 < m) (hz : 0 < z.length) (h63 : m ≤ 4611686018427387904) (hby : m * by_ ≤ 140737488355328)
    (k : ∀ g' cap' junk', junk'.length = cap' * z.length → m ≤ cap' → cap' ≤ maxLen → RS P W n ops Q rest (put e d (.slice (some ⟨g', 0, none⟩) m cap')) (⟨g', el, junk'⟩ :: H)) :
    RS P W n ops Q (⟨some d, .call ⟨.builtin .append, #[x, y], #[t, t2]⟩, ty, pos, af, none⟩ :: rest) e H := by
  refine RS.step (d := some d) hd fun w ho => ?_
  obtain ⟨i, zv, ds, hi, hds, hzz, hs, hc, ha, hb⟩ := (tyF he).ex
  have hsz : zv.cells.size = z.length := by rw [hc]; simp
  have h := Lib.run_append_grow_zeros w t t2 ty el i zv .i64 .i64 hu hu2 hi hzz none 0 0 [] (run_firstCells_none w.drew i.size 0 0 0) m hm (by rw [hs]; exact hz) (by omega) (by omega) (by rw [hb]; exact Nat.le_trans hby (by decide)) (growslice_fits (by omega) (by rw [Nat.zero_add, hb]; exact hby))
  rw [Nat.zero_add] at h
  have hge := grownCap_ge w m 0 el
  have hle := grownCap_le_maxLen w m 0 el (by unfold maxLen; omega)
  refine ⟨_, _, _, ?_, (ho.drew.alloc el ((#[] : Array Value) ++ Builtin.zeroCells zv.cells m ++ Builtin.zeroCells zv.cells (grownCap w m 0 el - m)).toList), k _ _ _ ?_ hge hle⟩
  · simp only [execOp, resolve, invoke, builtin, Sem.run_bind, Sem.run_pure, Result.andThen_ok, List.map_toArray, List.map_cons, List.map_nil, hx, hy, h]
    rfl
  · rw [Array.length_toList, Array.size_append, Array.size_append, size_zeroCells, size_zeroCells, hsz]
    show 0 + m * z.length + (grownCap w m 0 el - m) * z.length = grownCap w m 0 el * z.length
    rw [Nat.zero_add, ← Nat.add_mul]
    congr 1; omega
end
/-- sums and rows put together -/
def sm (nn : Nat → Nat) : Nat → Nat
  | 0 => 0
  | k + 1 => sm nn k + nn k
def cat (cs : Nat → List Value) : Nat → List Value
  | 0 => []
  | k + 1 => cat cs k ++ cs k

set_option maxRecDepth 100000 in
theorem grow0 (n : Nat) (W : World) (h0 : 0 < n) (hn : n ≤ 100000) : Fn_ Try.prog 28 #[.slice none 0 0, iv (n : Int)] W (fun v H => Row 26 5 v 0 [] H) := by
  refine Fn_.intro Try.func28 rfl rfl (by rfl) ?_
  refine CS.seq ?_
  refine CS.region ?_
  refine RS.q rfl (QO.assign) ?_
  refine RS.nil ?_
  refine thenC_n ?_
  refine CS.seq ?_
  refine CS.seq ?_
  refine CS.region ?_
  refine RS.q rfl (QO.move) ?_
  refine RS.q rfl (QO.lss (by rfl) (by rfl)) ?_
  refine RS.nil ?_
  refine thenC_n ?_
  refine CS.condF (by rfl) (decide_eq_false (by omega)) ?_
  refine CS.skip ?_
  refine thenC_n ?_
  refine CS.seq ?_
  refine CS.seq ?_
  refine CS.region ?_
  refine RS.q rfl (QO.move) ?_
  refine RS.q rfl (QO.move) ?_
  refine RS.q rfl (QO.capS Try.underlying27 (by rfl)) ?_
  refine RS.q rfl (QO.move) ?_
  refine RS.q rfl (QO.lenS Try.underlying27 (by rfl)) ?_
  first | (refine RS.q rfl (QO.sub (by rfl) (by rfl) (by omega) (by omega)) ?_) | (refine RS.q rfl (QO.ibin (by rfl) (by rfl) trivial) ?_)
  first | (refine RS.qv rfl (QO.sub (by rfl) (by rfl) (by omega) (by omega)) (congrArg iv (Int.sub_zero (n : Int))) ?_) | (refine RS.qv rfl (QO.ibin (by rfl) (by rfl) trivial) (congrArg iv (Int.sub_zero (n : Int))) ?_)
  refine RS.q rfl (QO.assign) ?_
  refine RS.nil ?_
  refine thenC_n ?_
  refine CS.seq ?_
  refine CS.region ?_
  refine RS.q rfl (QO.move) ?_
  refine RS.q rfl (QO.gtr (by rfl) (by rfl)) ?_
  refine RS.nil ?_
  refine thenC_n ?_
  refine CS.condT (by rfl) (decide_eq_true (by omega)) ?_
  refine CS.region ?_
  refine RS.q rfl (QO.move) ?_
  refine RS.q rfl (QO.move) ?_
  refine RS.q rfl (QO.capS Try.underlying27 (by rfl)) ?_
  refine RS.q rfl (QO.cutHi Try.underlying27 ty26 (by rfl) (by rfl) (by omega) (by omega)) ?_
  refine RS.q rfl (QO.move) ?_
  refine RS.appendZ rfl Try.underlying27 ty26 Try.underlying3 (by rfl) (by rfl) h0 (by decide) (by omega) (by omega) ?_
  intro g22 cap22 junk22 q1 q2 q3
  refine RS.q rfl (QO.move) ?_
  refine RS.q rfl (QO.lenS Try.underlying27 (by rfl)) ?_
  refine RS.q rfl (QO.cutHi Try.underlying27 ty26 (by rfl) (by rfl) (by omega) (by omega)) ?_
  refine RS.q rfl (QO.assign) ?_
  refine RS.nil ?_
  refine thenC_n ?_
  refine CS.seq ?_
  refine CS.region ?_
  refine RS.q rfl (QO.move) ?_
  refine RS.q rfl (QO.assign) ?_
  refine RS.nil ?_
  refine thenC_n ?_
  refine CS.ret ?_
  refine retQ.mk (H' := [⟨g22, 26, junk22⟩]) (.inr rfl) (RVs.tmp (by rfl) RVs.nil) (by repeat (first | exact List.Sublist.refl _ | exact List.nil_sublist _ | refine List.Sublist.cons_cons _ ?_ | refine List.Sublist.cons _ ?_ | exact Sbp.refl | exact Sbp.nil | refine Sbp.cons (by repeat (first | exact Rem.head | apply Rem.tail)) ?_ | exact Sbp.app | refine Sbp.skip ?_ | exact List.sublist_append_left _ _ | exact List.sublist_append_right _ _)) ?_
  exact .own (xs := []) (by rfl) (by simpa using q1) (Nat.zero_le _) q3

set_option maxHeartbeats 16000000 in
set_option maxRecDepth 100000 in
theorem concat2 (g b : Nat) (oo nn cc : Nat → Nat) (cs : Nat → List Value) (W : World) (hc : ∀ k, k < 2 → W.cell? ⟨g, k, none⟩ = some (.slice (some ⟨b, oo k, none⟩) (nn k) (cc k))) (hs : ∀ k, k < 2 → ∀ j u, (cs k)[j]? = some u → W.cell? ((⟨b, oo k, none⟩ : Addr).add j) = some u) (hl : ∀ k, k < 2 → (cs k).length = nn k * 5) (h1 : ∀ k, k < 2 → (cs k).all (·.oneCell') = true) (hmx : ∀ k, k < 2 → sm nn k + nn k ≤ 100000) (h0 : 0 < sm nn 2) : Fn_ Try.prog 11 #[.slice (some ⟨g, 0, none⟩) 2 2] W (fun v H => Row 26 5 v (sm nn 2) (cat cs 2) H) := by
  refine Fn_.intro Try.func11 rfl rfl (by rfl) ?_
  refine CS.seq ?_
  refine CS.region ?_
  refine RS.q rfl (QO.assign) ?_
  refine RS.nil ?_
  refine thenC_n ?_
  refine CS.seq ?_
  refine CS.region ?_
  refine RS.q rfl (QO.assign) ?_
  refine RS.nil ?_
  refine thenC_n ?_
  refine CS.seq ?_
  refine CS.seq ?_
  refine CS.region ?_
  refine RS.q rfl (QO.move) ?_
  refine RS.q rfl (QO.lenS Try.underlying63 (by rfl)) ?_
  refine RS.q rfl (QO.move) ?_
  refine RS.nil ?_
  refine thenC_n ?_
  refine CS.block ?_
  refine CS.loop (X := Nat) (3 :: 5 :: 11 :: 12 :: 13 :: 14 :: 15 :: 16 :: 17 :: 18 :: 19 :: 20 :: 21 :: 22 :: []) (fun k => [(11, iv (k : Int)), (3, iv ((sm nn k : Nat) : Int))]) (fun k => []) (fun k => k ≤ 2) (fun k => 2 - k) 0 (Nat.zero_le _) ?_ ?_ ?_
  · exact (by repeat (first | exact kn_nil | refine kn_cons (by rfl) ?_))
  · exact (by repeat (first | exact List.Sublist.refl _ | exact List.nil_sublist _ | refine List.Sublist.cons_cons _ ?_ | refine List.Sublist.cons _ ?_ | exact Sbp.refl | exact Sbp.nil | refine Sbp.cons (by repeat (first | exact Rem.head | apply Rem.tail)) ?_ | exact Sbp.app | refine Sbp.skip ?_ | exact List.sublist_append_left _ _ | exact List.sublist_append_right _ _))
  · intro k gj3 hz
    have hk := hz
    refine CS.seq ?_
    refine CS.region ?_
    refine RS.q rfl (QO.lss (by rfl) (by rfl)) ?_
    refine RS.nil ?_
    refine thenC_n ?_
    refine CS.seq ?_
    refine CS.cond (by rfl) (fun hb0 => ?_) (fun hb0 => ?_)
    · have hb0p := of_decide_eq_true hb0
      refine CS.skip ?_
      refine thenC_n ?_
      refine CS.seq ?_
      refine CS.block ?_
      refine CS.seq ?_
      refine CS.region ?_
      first | (refine RS.q rfl (QO.idx0 Try.underlying63 ty27 (by rfl) (by rfl) (by rfl) (by omega)) ?_) | (refine RS.q rfl (QO.idxn Try.underlying63 ty27 (by rfl) (by rfl) (by rfl) (by omega)) ?_) | (refine RS.q rfl (QO.idx1 Try.underlying63 ty27 (by rfl) (by rfl) (by omega) (by omega)) ?_)
      have hmk := hmx k (by omega)
      refine RS.q rfl (QO.loadO ty27 (by rfl) (hc k (by omega))) ?_
      refine RS.q rfl (QO.assign) ?_
      refine RS.nil ?_
      refine thenC_n ?_
      refine CS.seq ?_
      refine CS.region ?_
      refine RS.q rfl (QO.move) ?_
      refine RS.q rfl (QO.move) ?_
      refine RS.q rfl (QO.lenS Try.underlying27 (by rfl)) ?_
      first | (refine RS.q rfl (QO.add (by rfl) (by rfl) (by omega) (by omega)) ?_) | (refine RS.q rfl (QO.ibin (by rfl) (by rfl) trivial) ?_)
      refine RS.q rfl (QO.assign) ?_
      refine RS.nil ?_
      refine thenC_n ?_
      refine CS.seq ?_
      refine CS.region ?_
      refine RS.q rfl (QO.move) ?_
      refine RS.q rfl (QO.lss (by rfl) (by rfl)) ?_
      refine RS.nil ?_
      refine thenC_n ?_
      refine CS.condF (by rfl) (decide_eq_false (by omega)) ?_
      refine CS.skip ?_
      refine blockC_n ?_
      refine thenC_n ?_
      refine CS.region ?_
      first | (refine RS.q rfl (QO.add (by rfl) (by rfl) (by omega) (by omega)) ?_) | (refine RS.q rfl (QO.ibin (by rfl) (by rfl) trivial) ?_)
      refine RS.q rfl (QO.move) ?_
      refine RS.nil ?_
      refine loopQ_n (by intro t ht; repeat (first | with_reducible exact rfl | exact frame_puts ht (frame_mix ht) _ rfl | (refine frame_put rfl ht ?_) | (refine frame_puts ht ?_ _ rfl) | exact frame_mix ht | (refine frame_mix2 rfl ht ?_) | exact rfl)) ?_
      exact ⟨k + 1, by omega, by omega, kn_cons (by rfl) (kn_cons (congrArg iv (show ((sm nn k : Nat) : Int) + ((nn k : Nat) : Int) = ((sm nn k + nn k : Nat) : Int) by omega)) kn_nil), (by repeat (first | exact List.Sublist.refl _ | exact List.nil_sublist _ | refine List.Sublist.cons_cons _ ?_ | refine List.Sublist.cons _ ?_ | exact Sbp.refl | exact Sbp.nil | refine Sbp.cons (by repeat (first | exact Rem.head | apply Rem.tail)) ?_ | exact Sbp.app | refine Sbp.skip ?_ | exact List.sublist_append_left _ _ | exact List.sublist_append_right _ _))⟩
    · have hb0p := of_decide_eq_false hb0
      refine CS.exit ?_
      refine thenC_x ?_
      refine loopQ_x ?_
      refine blockC_x ?_
      refine thenC_n ?_
      refine CS.seq ?_
      refine CS.region ?_
      have hk2 : k = 2 := by omega
      have hm1 := hmx 1 (by omega)
      have hsm : sm nn 2 = sm nn 1 + nn 1 := rfl
      refine RS.qv rfl (QO.move) (congrArg iv (show ((sm nn k : Nat) : Int) = ((sm nn 2 : Nat) : Int) by rw [hk2])) ?_
      refine RS.call rfl (by rfl) ok28 (by rfl) (fun w ho => grow0 (sm nn 2) _ h0 (by omega)) ?_
      intro v24 H24 h24
      refine RS.q rfl (QO.assign) ?_
      refine RS.nil ?_
      refine thenC_n ?_
      refine CS.seq ?_
      refine CS.seq ?_
      refine CS.region ?_
      refine RS.q rfl (QO.move) ?_
      refine RS.q rfl (QO.lenS Try.underlying63 (by rfl)) ?_
      refine RS.q rfl (QO.move) ?_
      refine RS.nil ?_
      refine thenC_n ?_
      refine CS.block ?_
      refine CS.loop (X := Nat × Value × HL) [6, 8, 27, 28, 29, 30, 31, 32, 33, 34] (fun z => [(27, iv (z.1 : Int)), (6, z.2.1)]) (fun z => z.2.2) (fun z => z.1 ≤ 2 ∧ Row 26 5 z.2.1 (sm nn z.1) (cat cs z.1) z.2.2) (fun z => 2 - z.1) (0, v24, H24) ⟨Nat.zero_le _, h24⟩ ?_ ?_ ?_
      · exact kn_cons (by rfl) (kn_cons (by rfl) kn_nil)
      · exact (by repeat (first | exact List.Sublist.refl _ | exact List.nil_sublist _ | refine List.Sublist.cons_cons _ ?_ | refine List.Sublist.cons _ ?_ | exact Sbp.refl | exact Sbp.nil | refine Sbp.cons (by repeat (first | exact Rem.head | apply Rem.tail)) ?_ | exact Sbp.app | refine Sbp.skip ?_ | exact List.sublist_append_left _ _ | exact List.sublist_append_right _ _))
      · intro z gj11 hz
        obtain ⟨k, vr, Hr⟩ := z
        obtain ⟨hk, hrow⟩ := hz
        simp only at hk hrow
        show CS _ _ _ _ _ (puts (mix _ _ _) [(27, iv (k : Int)), (6, vr)]) (Hr)
        refine CS.seq ?_
        refine CS.region ?_
        refine RS.q rfl (QO.lss (by rfl) (by rfl)) ?_
        refine RS.nil ?_
        refine thenC_n ?_
        refine CS.seq ?_
        refine CS.cond (by rfl) (fun hb1 => ?_) (fun hb1 => ?_)
        · have hb1p := of_decide_eq_true hb1
          refine CS.skip ?_
          refine thenC_n ?_
          refine CS.seq ?_
          refine CS.block ?_
          refine CS.seq ?_
          refine CS.region ?_
          first | (refine RS.q rfl (QO.idx0 Try.underlying63 ty27 (by rfl) (by rfl) (by rfl) (by omega)) ?_) | (refine RS.q rfl (QO.idxn Try.underlying63 ty27 (by rfl) (by rfl) (by rfl) (by omega)) ?_) | (refine RS.q rfl (QO.idx1 Try.underlying63 ty27 (by rfl) (by rfl) (by omega) (by omega)) ?_)
          have hmk := hmx k (by omega)
          refine RS.q rfl (QO.loadO ty27 (by rfl) (hc k (by omega))) ?_
          refine RS.q rfl (QO.assign) ?_
          refine RS.nil ?_
          refine thenC_n ?_
          by_cases hsp13 : nn k = 0
          · refine CS.region ?_
            have hxs := hrow.slice
            obtain ⟨Ar, cr, hvr, hlc, _⟩ := hxs
            subst hvr
            refine RS.q rfl (QO.move) ?_
            refine RS.q rfl (QO.move) ?_
            refine RS.q rfl (QO.appendE Try.underlying27 ty26 (by rfl) hlc (by rw [← hsp13]; rfl)) ?_
            refine RS.q rfl (QO.assign) ?_
            refine RS.nil ?_
            refine blockC_n ?_
            refine thenC_n ?_
            refine CS.region ?_
            first | (refine RS.q rfl (QO.add (by rfl) (by rfl) (by omega) (by omega)) ?_) | (refine RS.q rfl (QO.ibin (by rfl) (by rfl) trivial) ?_)
            refine RS.q rfl (QO.move) ?_
            refine RS.nil ?_
            refine loopQ_n (by intro t ht; repeat (first | with_reducible exact rfl | exact frame_puts ht (frame_mix ht) _ rfl | (refine frame_put rfl ht ?_) | (refine frame_puts ht ?_ _ rfl) | exact frame_mix ht | (refine frame_mix2 rfl ht ?_) | exact rfl)) ?_
            have hce : cs k = [] := List.length_eq_zero_iff.1 (by rw [hl k (by omega), hsp13, Nat.zero_mul])
            have hrw : Row 26 5 (.slice Ar (sm nn k) cr) (sm nn (k + 1)) (cat cs (k + 1)) Hr := by
              show Row 26 5 _ (sm nn k + nn k) (cat cs k ++ cs k) Hr
              rw [hsp13, hce, List.append_nil]; exact hrow
            exact ⟨(k + 1, .slice Ar (sm nn k) cr, Hr), ⟨by show k + 1 ≤ 2; omega, hrw⟩, by show 2 - (k + 1) < 2 - k; omega, kn_cons (by rfl) (kn_cons (by rfl) kn_nil), (by repeat (first | exact List.Sublist.refl _ | exact List.nil_sublist _ | refine List.Sublist.cons_cons _ ?_ | refine List.Sublist.cons _ ?_ | exact Sbp.refl | exact Sbp.nil | refine Sbp.cons (by repeat (first | exact Rem.head | apply Rem.tail)) ?_ | exact Sbp.app | refine Sbp.skip ?_ | exact List.sublist_append_left _ _ | exact List.sublist_append_right _ _))⟩
          · refine CS.region ?_
            refine RS.q rfl (QO.move) ?_
            refine RS.q rfl (QO.move) ?_
            refine RS.appendRow rfl Try.underlying27 ty26 (by rfl) hrow (by repeat (first | exact Suf.base | apply Suf.cons)) (by rfl) (.inl (hs k (by omega))) (hl k (by omega)) (h1 k (by omega)) (by decide) (by omega) (by unfold maxLen; omega) (by omega) ?_
            intro v33 H33 hrow33
            refine RS.q rfl (QO.assign) ?_
            refine RS.nil ?_
            refine blockC_n ?_
            refine thenC_n ?_
            refine CS.region ?_
            first | (refine RS.q rfl (QO.add (by rfl) (by rfl) (by omega) (by omega)) ?_) | (refine RS.q rfl (QO.ibin (by rfl) (by rfl) trivial) ?_)
            refine RS.q rfl (QO.move) ?_
            refine RS.nil ?_
            refine loopQ_n (by intro t ht; repeat (first | with_reducible exact rfl | exact frame_puts ht (frame_mix ht) _ rfl | (refine frame_put rfl ht ?_) | (refine frame_puts ht ?_ _ rfl) | exact frame_mix ht | (refine frame_mix2 rfl ht ?_) | exact rfl)) ?_
            exact ⟨(k + 1, v33, H33), ⟨by show k + 1 ≤ 2; omega, hrow33⟩, by show 2 - (k + 1) < 2 - k; omega, kn_cons (by rfl) (kn_cons (by rfl) kn_nil), (by repeat (first | exact List.Sublist.refl _ | exact List.nil_sublist _ | refine List.Sublist.cons_cons _ ?_ | refine List.Sublist.cons _ ?_ | exact Sbp.refl | exact Sbp.nil | refine Sbp.cons (by repeat (first | exact Rem.head | apply Rem.tail)) ?_ | exact Sbp.app | refine Sbp.skip ?_ | exact List.sublist_append_left _ _ | exact List.sublist_append_right _ _))⟩
        · have hb1p := of_decide_eq_false hb1
          refine CS.exit ?_
          refine thenC_x ?_
          refine loopQ_x ?_
          refine blockC_x ?_
          refine thenC_n ?_
          refine CS.seq ?_
          refine CS.region ?_
          refine RS.q rfl (QO.move) ?_
          refine RS.q rfl (QO.assign) ?_
          refine RS.nil ?_
          refine thenC_n ?_
          refine CS.ret ?_
          refine retQ.mk (H' := Hr) (.inr rfl) (RVs.tmp (by rfl) RVs.nil) (by repeat (first | exact List.Sublist.refl _ | exact List.nil_sublist _ | refine List.Sublist.cons_cons _ ?_ | refine List.Sublist.cons _ ?_ | exact Sbp.refl | exact Sbp.nil | refine Sbp.cons (by repeat (first | exact Rem.head | apply Rem.tail)) ?_ | exact Sbp.app | refine Sbp.skip ?_ | exact List.sublist_append_left _ _ | exact List.sublist_append_right _ _)) ?_
          have hk2 : k = 2 := by omega
          rw [hk2] at hrow
          exact hrow

end Go.Proofs.Ytdfbeigjinhgiaa

namespace Go.Proofs.Ytdfbeigjinhgiaa
open Go

def rgOf (p : FrS) : Rg := (p.x, p.y, p.w, p.h)
def PartOk (ys : List Nat) (X Y : Int) (a b : Nat) (p : FrS) : Prop := p.zs = cutV ys X Y a b p.x p.y p.w p.h ∧ p.zs.length = p.n
theorem regErr_mid {x y w h : Int} (hw : 1 ≤ w ∧ w ≤ 8) (hh : 1 ≤ h ∧ h ≤ 8) (hx : -3000 ≤ x ∧ x ≤ 3000) (hy : -3000 ≤ y ∧ y ≤ 3000) : regErr x y w h = 0 := by
  obtain ⟨u, rfl⟩ : ∃ u : Nat, w = (u : Int) := ⟨w.toNat, by omega⟩
  obtain ⟨v, rfl⟩ : ∃ v : Nat, h = (v : Int) := ⟨h.toNat, by omega⟩
  have h5 : u * v ≤ 8 * 8 := Nat.mul_le_mul (by omega) (by omega)
  have h6 : ((u * v : Nat) : Int) = (u : Int) * (v : Int) := Int.natCast_mul ..
  unfold regErr outR
  rw [if_neg (by omega), if_neg (by omega), if_neg (by simp; omega)]
section
variable {ys : List Nat} {X Y : Int} {a b s : Nat}
theorem part_fr {p : FrS} (hs : 1 ≤ s) (ha : 1 ≤ a ∧ a ≤ 8) (hb : 1 ≤ b ∧ b ≤ 8) (hX : -1000 ≤ X ∧ X ≤ 1000) (hY : -1000 ≤ Y ∧ Y ≤ 1000) (ht : rgOf p ∈ rowsL X Y a b s (cntI Y b s)) :
    regErr p.x p.y p.w p.h = 0 ∧ insB p.x p.y p.w p.h X Y a b = true ∧ X ≤ p.x ∧ Y ≤ p.y ∧ 1 ≤ p.w ∧ 1 ≤ p.h ∧ p.x + p.w ≤ X + a ∧ p.y + p.h ≤ Y + b := by
  have h := tile_in hs ha.1 hb.1 ht
  simp only [rgOf] at h
  refine ⟨regErr_mid (by omega) (by omega) (by omega) (by omega), ?_, h⟩
  unfold insB
  rw [decide_eq_true_eq]
  omega
theorem part_n {p : FrS} (hp : PartOk ys X Y a b p) (hr : regErr p.x p.y p.w p.h = 0) : frErr p.x p.y p.w p.h p.n = 0 := by
  have h1 := regErr_ok hr
  unfold frErr
  rw [if_neg (by rw [hr]; decide), if_neg]
  rw [← hp.2, hp.1]
  unfold cutV
  rw [madeV_len]
  have e1 : ((p.w.toNat * p.h.toNat : Nat) : Int) = (p.w.toNat : Int) * (p.h.toNat : Int) := Int.natCast_mul ..
  have e2 : ((p.w.toNat : Nat) : Int) = p.w := by omega
  have e3 : ((p.h.toNat : Nat) : Int) = p.h := by omega
  rw [e2, e3] at e1
  omega
theorem jN_rg (fs : List FrS) (k : Nat) : jN X Y a fs k = (fs.map rgOf).countP (inT (X + ((k % a : Nat) : Int)) (Y + ((k / a : Nat) : Int))) := by
  unfold jN
  rw [List.countP_map]
  rfl
theorem jN_one {fs : List FrS} (hs : 1 ≤ s) (ha : 1 ≤ a) (hb : 1 ≤ b) (hp : (fs.map rgOf).Perm (rowsL X Y a b s (cntI Y b s))) {k : Nat} (hk : k < a * b) : jN X Y a fs k = 1 := by
  have h1 : k % a < a := Nat.mod_lt _ (by omega)
  have h2 : k / a < b := (Nat.div_lt_iff_lt_mul (by omega)).2 (by rw [Nat.mul_comm]; exact hk)
  obtain ⟨r, hr⟩ : ∃ r, k / a = r := ⟨_, rfl⟩
  obtain ⟨c, hc⟩ : ∃ c, k % a = c := ⟨_, rfl⟩
  rw [jN_rg, hp.countP_eq, hr, hc]
  exact tiles_once hs ha hb (by omega) (by omega) (by omega) (by omega)
/-- the pixel of a part -/
theorem part_px {p : FrS} {i : Nat} (ha : 1 ≤ a) (hlt : i < 4 * (a * b)) (hp : PartOk ys X Y a b p) (hw : 1 ≤ p.w) (hh : 1 ≤ p.h) (hin : jIn X Y a p (i / 4) = true) : pxF X Y a p i = cl (ys.getD i 0) := by
  unfold pxF
  have hi2 := of_decide_eq_true hin
  have m1 : i / 4 % a < a := Nat.mod_lt _ (by omega)
  have m2 : i / 4 / a < b := (Nat.div_lt_iff_lt_mul (by omega)).2 (by rw [Nat.mul_comm]; omega)
  have hdm := Nat.div_add_mod (i / 4) a
  have hd4 := Nat.div_add_mod i 4
  have m4 : i % 4 < 4 := Nat.mod_lt _ (by decide)
  generalize i / 4 % a = c at *
  generalize i / 4 / a = r at *
  obtain ⟨u, hu⟩ : ∃ u : Nat, p.w = (u : Int) := ⟨p.w.toNat, by omega⟩
  obtain ⟨v, hv⟩ : ∃ v : Nat, p.h = (v : Int) := ⟨p.h.toNat, by omega⟩
  obtain ⟨x', hx'⟩ : ∃ x' : Nat, X + (c : Int) = p.x + (x' : Int) := ⟨(X + (c : Int) - p.x).toNat, by omega⟩
  obtain ⟨y', hy'⟩ : ∃ y' : Nat, Y + (r : Int) = p.y + (y' : Int) := ⟨(Y + (r : Int) - p.y).toNat, by omega⟩
  rw [pixF_at (i := x') (j := y') (by rw [hx']; unfold near; omega) (by rw [hy']; unfold near; omega), hp.1]
  have hxu : x' < u := by omega
  have hyv : y' < v := by omega
  have hb2 := at_bd (a := u) (b := v) hxu hyv
  unfold cutV madeV
  rw [hu, hv, Int.toNat_natCast, Int.toNat_natCast, Nat.mul_comm y' u]
  rw [List.getD_eq_getElem?_getD, List.getElem?_map, List.getElem?_range (by omega)]
  show madeF _ _ _ _ _ = _
  rw [madeF_at hxu m4, ← hx', ← hy', at_pix m1 m2]
  congr 2
  omega
theorem join_all {fs : List FrS} (hs : 1 ≤ s) (ha : 1 ≤ a ∧ a ≤ 8) (hb : 1 ≤ b ∧ b ≤ 8) (hX : -1000 ≤ X ∧ X ≤ 1000) (hY : -1000 ≤ Y ∧ Y ≤ 1000) (hys : ys.length = 4 * (a * b)) (hp : (fs.map rgOf).Perm (rowsL X Y a b s (cntI Y b s))) (hok : ∀ p ∈ fs, PartOk ys X Y a b p) :
    jErr X Y a b fs = 0 ∧ jVals (jEnd X Y a fs js0) (a * b) = ys.map cl := by
  have hr := regErr_small ha hb hX hY
  have hfr : ∀ p ∈ fs, _ := fun p hpm => part_fr hs ha hb hX hY (hp.subset (List.mem_map.2 ⟨p, hpm, rfl⟩))
  constructor
  · unfold jErr
    rw [if_neg (by rw [hr]; decide)]
    exact jE_once (fun p hpm => ⟨part_n (hok p hpm) (hfr p hpm).1, (hfr p hpm).2.1⟩) (fun k hk => jN_one hs ha.1 hb.1 hp hk)
  · unfold jVals
    apply List.ext_getElem
    · simp [hys]
    · intro i h1 h2
      have hlt : i < 4 * (a * b) := by simpa using h1
      simp only [List.getElem_map, List.getElem_range]
      have hV : (jEnd X Y a fs js0).V i = cl (ys.getD i 0) := jEnd_val fs js0 (fun p hpm hin => part_px ha.1 hlt (hok p hpm) (hfr p hpm).2.2.2.2.1 (hfr p hpm).2.2.2.2.2.1 hin)
        (.inl (any_of_jN (by rw [jN_one hs ha.1 hb.1 hp (by omega)]; decide)))
      rw [hV, cl_cl, List.getD_eq_getElem?_getD, List.getElem?_eq_getElem (by omega)]; rfl
theorem join_less {p0 : FrS} {tl : List FrS} (hs : 1 ≤ s) (ha : 1 ≤ a ∧ a ≤ 8) (hb : 1 ≤ b ∧ b ≤ 8) (hX : -1000 ≤ X ∧ X ≤ 1000) (hY : -1000 ≤ Y ∧ Y ≤ 1000) (hp : ((p0 :: tl).map rgOf).Perm (rowsL X Y a b s (cntI Y b s))) (hok : ∀ p ∈ tl, PartOk ys X Y a b p) : jErr X Y a b tl = 10 := by
  have hr := regErr_small ha hb hX hY
  have hfr : ∀ p ∈ p0 :: tl, _ := fun p hpm => part_fr hs ha hb hX hY (hp.subset (List.mem_map.2 ⟨p, hpm, rfl⟩))
  have hone : ∀ k, k < a * b → jN X Y a tl k + (if jIn X Y a p0 k = true then 1 else 0) = 1 := fun k hk => by
    have := jN_one hs ha.1 hb.1 hp hk
    unfold jN at this ⊢
    rw [List.countP_cons] at this
    exact this
  have h0 := (hfr p0 (by simp)).2.2
  obtain ⟨p, hpx⟩ : ∃ p : Nat, p0.x = X + (p : Int) := ⟨(p0.x - X).toNat, by omega⟩
  obtain ⟨q, hqy⟩ : ∃ q : Nat, p0.y = Y + (q : Int) := ⟨(p0.y - Y).toNat, by omega⟩
  have hk0 : a * q + p < a * b := at_bd (by omega) (by omega)
  have hin : jIn X Y a p0 (a * q + p) = true := by
    have h3 := pl_of (a := a) (r := q) (x := p) (by omega)
    unfold jIn atB
    rw [h3.1, h3.2, decide_eq_true_eq]
    omega
  unfold jErr
  rw [if_neg (by rw [hr]; decide)]
  refine jE_less (k0 := a * q + p) (fun p hpm => ⟨part_n (hok p hpm) (hfr p (by simp [hpm])).1, (hfr p (by simp [hpm])).2.1⟩) (fun k hk => ?_) hk0 ?_
  · have h9 := hone k hk
    exact Nat.le_trans (Nat.le_add_right _ _) (Nat.le_of_eq h9)
  · have := hone _ hk0
    rw [if_pos hin] at this
    exact Nat.add_right_cancel (m := 1) (k := 0) this
end
end Go.Proofs.Ytdfbeigjinhgiaa

namespace Go.Proofs.Ytdfbeigjinhgiaa
open Go Go.Proofs Go.RowKit

theorem ty66 : tyChk Try.prog 66 = some ([.nilFunc], false, 8) := by kernel_rfl
theorem ok6 : callOK Try.prog 6 = true := by kernel_rfl
theorem ok7 : callOK Try.prog 7 = true := by kernel_rfl
theorem ok8 : callOK Try.prog 8 = true := by kernel_rfl
theorem ok9 : callOK Try.prog 9 = true := by kernel_rfl
theorem ok10 : callOK Try.prog 10 = true := by kernel_rfl
theorem ok11 : callOK Try.prog 11 = true := by kernel_rfl

set_option maxRecDepth 100000 in
theorem each1 (x y : Int) (a b : Nat) (A : Option Addr) (n c : Nat) (xs : List Nat) (b2 b3 : Nat) (fp : FuncId) (cap : Array Value) (T : Nat → (Nat → Nat) → Nat) (X Y : Int) (W : World) (hn : xs.length = n) (hA : FS W A xs) (hN : n = 4 * (a * b)) (hc : n ≤ c) (ha : 1 ≤ a ∧ a ≤ 256) (hb : 1 ≤ b ∧ b ≤ 256) (hx : -1048576 ≤ x ∧ x ≤ 1048576) (hy : -1048576 ≤ y ∧ y ≤ 1048576) (h2 : W.cell? ⟨b2, 0, none⟩ = some (.func (.func fp) #[] cap)) (h3 : ∀ j v, [iv x, iv y, iv (a : Int), iv (b : Int), .slice A n c][j]? = some v → W.cell? ((⟨b3, 0, none⟩ : Addr).add j) = some v) (hok : callOK Try.prog fp = true) (hf : ∀ wd Hd, Own W wd Hd → ∀ q : Nat → Nat, Fn_ Try.prog fp (pxv q :: cap.toList).toArray wd (fun v H => v = pxv (fun c => T c q) ∧ H = [])) : Fn_ Try.prog 38 #[iv X, iv Y, .pointer (some ⟨b2, 0, none⟩), .pointer (some ⟨b3, 0, none⟩)] W (fun v H => v = pxv (fun c => T c (pixF xs x y a b X Y)) ∧ H = []) := by
  refine Fn_.intro Try.func38 rfl rfl (by rfl) ?_
  refine CS.seq ?_
  refine CS.region ?_
  refine RS.alloc rfl ty52 ?_
  intro g6
  refine RS.nil ?_
  refine thenC_n ?_
  refine CS.seq ?_
  refine CS.draw 6 rfl (by kernel_rfl) (by kernel_rfl) ?_
  refine RT.take (i := 0) rfl (by kernel_rfl) rfl (QO.loadO ty66 (by rfl) h2) ?_
  refine RT.take (i := 1) rfl (by kernel_rfl) rfl (QO.loadOA ty26 (by rfl) h3 (by rfl)) ?_
  refine RT.take (i := 2) rfl (by kernel_rfl) rfl (QO.move) ?_
  refine RT.take (i := 3) rfl (by kernel_rfl) rfl (QO.move) ?_
  refine RT.one (i := 4) (by kernel_rfl) rfl rfl ?_
  refine RS.call rfl (by rfl) ok23 (by rfl) (fun w ho => pixelAt x y a b A n c xs X Y _ hn (hA.own ho) hN hc ha hb hx hy) ?_
  rintro _ _ ⟨rfl, rfl⟩
  refine RS.nil ⟨(by repeat (first | exact List.Sublist.refl _ | exact List.nil_sublist _ | refine List.Sublist.cons_cons _ ?_ | refine List.Sublist.cons _ ?_ | exact Sbp.refl | exact Sbp.nil | refine Sbp.cons (by repeat (first | exact Rem.head | apply Rem.tail)) ?_ | exact Sbp.app | refine Sbp.skip ?_ | exact List.sublist_append_left _ _ | exact List.sublist_append_right _ _)), ?_⟩
  refine RT.one (i := 5) (by kernel_rfl) rfl rfl ?_
  refine RS.call rfl (by rfl) hok (by rfl) (fun w ho => hf _ _ ho (pixF xs x y a b X Y)) ?_
  rintro _ _ ⟨rfl, rfl⟩
  refine RS.nil ⟨(by repeat (first | exact List.Sublist.refl _ | exact List.nil_sublist _ | refine List.Sublist.cons_cons _ ?_ | refine List.Sublist.cons _ ?_ | exact Sbp.refl | exact Sbp.nil | refine Sbp.cons (by repeat (first | exact Rem.head | apply Rem.tail)) ?_ | exact Sbp.app | refine Sbp.skip ?_ | exact List.sublist_append_left _ _ | exact List.sublist_append_right _ _)), ?_⟩
  refine RT.tail (i := 6) (by kernel_rfl) rfl rfl ?_
  first | refine RS.storeB ty52 (by rfl) (by rfl) (by rfl) (by rfl) (by rfl) (by repeat (first | exact Upd.head | apply Upd.tail | exact Upd.app _ Upd.head)) (by rfl) ?_ | refine RS.storeP ty52 (by rfl) (by rfl) (by rfl) (by rfl) (by rfl) (by repeat (first | exact Upd.head | apply Upd.tail | exact Upd.app _ Upd.head)) (by rfl) ?_
  refine RS.nil ?_
  refine RT.done (by kernel_rfl) ?_
  refine thenC_n ?_
  refine CS.ret ?_
  refine retQ.mk (H' := []) (.inr rfl) (RVs.cellA ty52 (by rfl) (by repeat (first | exact List.Mem.head _ | refine List.Mem.tail _ ?_)) (by rfl) RVs.nil) (List.nil_sublist _) ?_
  exact ⟨rfl, rfl⟩

set_option maxRecDepth 100000 in
theorem reach (x y : Int) (a b : Nat) (A : Option Addr) (n c : Nat) (xs : List Nat) (fp : FuncId) (cap : Array Value) (T : Nat → (Nat → Nat) → Nat) (W : World) (hn : xs.length = n) (hA : FS W A xs) (hN : n = 4 * (a * b)) (hc : n ≤ c) (ha : 1 ≤ a ∧ a ≤ 256) (hb : 1 ≤ b ∧ b ≤ 256) (hx : -1048576 ≤ x ∧ x ≤ 1048576) (hy : -1048576 ≤ y ∧ y ≤ 1048576) (hok : callOK Try.prog fp = true) (hf : ∀ wd Hd, Own W wd Hd → ∀ q : Nat → Nat, Fn_ Try.prog fp (pxv q :: cap.toList).toArray wd (fun v H => v = pxv (fun c => T c q) ∧ H = [])) : Fn_ Try.prog 30 #[.agg #[iv x, iv y, iv (a : Int), iv (b : Int), .slice A n c], .func (.func fp) #[] cap] W (fun v H => MadeR x y a b (eachV T xs n) v H) := by
  refine Fn_.intro Try.func30 rfl rfl (by rfl) ?_
  refine CS.seq ?_
  refine CS.region ?_
  refine RS.box rfl (by rfl) (by rfl) ?_
  intro g2
  refine RS.box rfl (by rfl) (by rfl) ?_
  intro g3
  refine RS.alloc rfl ty26 ?_
  intro g4
  refine RS.nil ?_
  refine thenC_n ?_
  refine CS.seq ?_
  refine CS.region ?_
  refine RS.q rfl (QO.fieldAddr fo26_0 (by rfl)) ?_
  first | (refine RS.q rfl (QO.loadB ty23 (by rfl) (by repeat (first | exact List.Mem.head _ | refine List.Mem.tail _ ?_)) (by rfl)) ?_) | (refine RS.q rfl (QO.loadA ty23 (by rfl) (by repeat (first | exact List.Mem.head _ | refine List.Mem.tail _ ?_)) (by rfl) (by rfl)) ?_) | (refine RS.q rfl (QO.loadOA ty23 (by rfl) (by assumption) (by rfl)) ?_)
  refine RS.q rfl (QO.makeFunc) ?_
  refine RS.call rfl (by rfl) ok24 (by rfl) (fun w ho => made' x y a b 38 _ (fun X Y c => T c (pixF xs x y a b X Y)) _ (by kernel_rfl) ha hb hx hy (fun wd Hd hd X Y _ _ _ _ => each1 x y a b A n c xs g3 g2 fp cap T X Y wd hn ((hA.own ho).own hd) hN hc ha hb hx hy (hd.old (ho.cell0 (by repeat (first | exact List.Mem.head _ | refine List.Mem.tail _ ?_)) rfl)) (fun j v hj => hd.old (ho.cellAt (by repeat (first | exact List.Mem.head _ | refine List.Mem.tail _ ?_)) hj)) hok (fun wd2 Hd2 hd2 q => hf _ _ ((ho.call hd).call hd2) q))) ?_
  intro v8 H8 hv8
  obtain ⟨gm, cm, jm, rfl, rfl, hcm, hcm2⟩ := hv8
  first | refine RS.storeB ty26 (by rfl) (by rfl) (by rfl) (by rfl) (by rfl) (by repeat (first | exact Upd.head | apply Upd.tail | exact Upd.app _ Upd.head)) (by rfl) ?_ | refine RS.storeP ty26 (by rfl) (by rfl) (by rfl) (by rfl) (by rfl) (by repeat (first | exact Upd.head | apply Upd.tail | exact Upd.app _ Upd.head)) (by rfl) ?_
  refine RS.nil ?_
  refine thenC_n ?_
  refine CS.ret ?_
  refine retQ.mk (H' := [⟨gm, 43, (madeV (fun X Y c => T c (pixF xs x y a b X Y)) x y a (4 * (a * b))).map flt ++ jm⟩]) (.inr rfl) (RVs.cellA ty26 (by rfl) (by repeat (first | exact List.Mem.head _ | refine List.Mem.tail _ ?_)) (by rfl) RVs.nil) (by repeat (first | exact List.Sublist.refl _ | exact List.nil_sublist _ | refine List.Sublist.cons_cons _ ?_ | refine List.Sublist.cons _ ?_ | exact Sbp.refl | exact Sbp.nil | refine Sbp.cons (by repeat (first | exact Rem.head | apply Rem.tail)) ?_ | exact Sbp.app | refine Sbp.skip ?_ | exact List.sublist_append_left _ _ | exact List.sublist_append_right _ _)) ?_
  rw [madeV_each] at hcm ⊢
  rw [hN]
  exact ⟨gm, cm, jm, rfl, rfl, hcm, hcm2⟩

set_option maxRecDepth 100000 in
theorem rclean (x y : Int) (a b : Nat) (A : Option Addr) (n c : Nat) (xs : List Nat) (W : World) (hn : xs.length = n) (hA : FS W A xs) (hN : n = 4 * (a * b)) (hc : n ≤ c) (ha : 1 ≤ a ∧ a ≤ 256) (hb : 1 ≤ b ∧ b ≤ 256) (hx : -1048576 ≤ x ∧ x ≤ 1048576) (hy : -1048576 ≤ y ∧ y ≤ 1048576) : Fn_ Try.prog 13 #[.agg #[iv x, iv y, iv (a : Int), iv (b : Int), .slice A n c]] W (fun v H => MadeR x y a b (xs.map cl) v H) := by
  refine Fn_.intro Try.func13 rfl rfl (by rfl) ?_
  refine CS.seq ?_
  refine CS.region ?_
  refine RS.box rfl (by rfl) (by rfl) ?_
  intro g1
  refine RS.alloc rfl ty26 ?_
  intro g2
  refine RS.nil ?_
  refine thenC_n ?_
  refine CS.seq ?_
  refine CS.region ?_
  first | (refine RS.q rfl (QO.loadB ty26 (by rfl) (by repeat (first | exact List.Mem.head _ | refine List.Mem.tail _ ?_)) (by rfl)) ?_) | (refine RS.q rfl (QO.loadA ty26 (by rfl) (by repeat (first | exact List.Mem.head _ | refine List.Mem.tail _ ?_)) (by rfl) (by rfl)) ?_) | (refine RS.q rfl (QO.loadOA ty26 (by rfl) (by assumption) (by rfl)) ?_)
  refine RS.call rfl (by rfl) ok30 (by rfl) (fun w ho => reach x y a b A n c xs 31 #[] (fun c q => q c) _ hn (hA.own ho) hN hc ha hb hx hy (by kernel_rfl) (fun wd Hd hd q => rclean1 q wd)) ?_
  intro v4 H4 hv4
  rw [eachV_id _ _ hn] at hv4
  obtain ⟨gm, cm, jm, rfl, rfl, hcm, hcm2⟩ := hv4
  first | refine RS.storeB ty26 (by rfl) (by rfl) (by rfl) (by rfl) (by rfl) (by repeat (first | exact Upd.head | apply Upd.tail | exact Upd.app _ Upd.head)) (by rfl) ?_ | refine RS.storeP ty26 (by rfl) (by rfl) (by rfl) (by rfl) (by rfl) (by repeat (first | exact Upd.head | apply Upd.tail | exact Upd.app _ Upd.head)) (by rfl) ?_
  refine RS.nil ?_
  refine thenC_n ?_
  refine CS.ret ?_
  refine retQ.mk (H' := [⟨gm, 43, (xs.map cl).map flt ++ jm⟩]) (.inr rfl) (RVs.cellA ty26 (by rfl) (by repeat (first | exact List.Mem.head _ | refine List.Mem.tail _ ?_)) (by rfl) RVs.nil) (by repeat (first | exact List.Sublist.refl _ | exact List.nil_sublist _ | refine List.Sublist.cons_cons _ ?_ | refine List.Sublist.cons _ ?_ | exact Sbp.refl | exact Sbp.nil | refine Sbp.cons (by repeat (first | exact Rem.head | apply Rem.tail)) ?_ | exact Sbp.app | refine Sbp.skip ?_ | exact List.sublist_append_left _ _ | exact List.sublist_append_right _ _)) ?_
  exact ⟨gm, cm, jm, rfl, rfl, hcm, hcm2⟩

theorem Suf.any (Hr : HL) : ∀ L : HL, Suf Hr (L ++ Hr) L
  | [] => .base
  | _ :: L => .cons (Suf.any Hr L)
theorem joinN (X Y w_ h_ : Int) (A : Option Addr) (n c : Nat) (fs : List FrS) (W : World) (hn : fs.length = n) (hA : FsL W A fs) (hm : n ≤ maxLen) : Fn_ Try.prog 6 #[.agg #[iv X, iv Y, iv w_, iv h_], .slice A n c] W (fun v H => FrR (jErr X Y w_ h_ fs) X Y w_ h_ (jVals (jEnd X Y w_.toNat fs js0) (w_.toNat * h_.toNat)) v H) := by
  subst hn
  exact join_ X Y w_ h_ A c fs W hA hm
/-- frames, in cells -/
def frC (ps : List FrS) : List Value := ps.flatMap FrS.cells
theorem frC_cons (p : FrS) (ps : List FrS) : frC (p :: ps) = p.cells ++ frC ps := rfl
theorem frC_app (a b : List FrS) : frC (a ++ b) = frC a ++ frC b := by simp [frC]
theorem frC_len : ∀ ps : List FrS, (frC ps).length = ps.length * 5
  | [] => rfl
  | p :: ps => by rw [frC_cons, List.length_append, frC_len ps, List.length_cons]; simp [FrS.cells]; omega
theorem frC_one (ps : List FrS) : (frC ps).all (·.oneCell') = true := by
  induction ps with
  | nil => rfl
  | cons p ps ih => rw [frC_cons, List.all_append, ih]; rfl
theorem frC_at : ∀ {ps : List FrS} {i j : Nat} {f : FrS} {v : Value}, ps[i]? = some f → f.cells[j]? = some v → ∀ junk, (frC ps ++ junk)[i * 5 + j]? = some v
  | [], i, j, f, v, h, _, _ => by simp at h
  | p :: ps, 0, j, f, v, h, hv, junk => by
    simp only [List.getElem?_cons_zero, Option.some.injEq] at h
    subst h
    have hj := (List.getElem?_eq_some_iff.1 hv).1
    rw [frC_cons, List.append_assoc, Nat.zero_mul, Nat.zero_add, List.getElem?_append_left hj]
    exact hv
  | p :: ps, i + 1, j, f, v, h, hv, junk => by
    have h5 : p.cells.length = 5 := rfl
    rw [frC_cons, List.append_assoc, List.getElem?_append_right (by rw [h5]; omega), h5, show (i + 1) * 5 + j - 5 = i * 5 + j by omega]
    exact frC_at (by simpa using h) hv junk
theorem frC_sub {ps : List FrS} {m j : Nat} {v : Value} (junk : List Value) (h : (frC (ps.drop m))[j]? = some v) (hm : m ≤ ps.length) : (frC ps ++ junk)[m * 5 + j]? = some v := by
  have h1 : (frC (ps.take m)).length = m * 5 := by rw [frC_len, List.length_take, Nat.min_eq_left hm]
  have hj := (List.getElem?_eq_some_iff.1 h).1
  conv => lhs; rw [← List.take_append_drop m ps, frC_app, List.append_assoc]
  rw [List.getElem?_append_right (by omega), h1, Nat.add_sub_cancel_left, List.getElem?_append_left hj]
  exact h
theorem frC_pre {ps : List FrS} {m j : Nat} {v : Value} (junk : List Value) (h : (frC (ps.take m))[j]? = some v) : (frC ps ++ junk)[j]? = some v := by
  have hj := (List.getElem?_eq_some_iff.1 h).1
  conv => lhs; rw [← List.take_append_drop m ps, frC_app, List.append_assoc]
  rw [List.getElem?_append_left hj]
  exact h
/-- a part's numbers stand in a block -/
def DataOK (p : FrS) (Hf : HL) : Prop := ∃ g junk, p.A = some ⟨g, 0, none⟩ ∧ (⟨g, 43, p.zs.map flt ++ junk⟩ : B) ∈ Hf ∧ p.zs.length = p.n ∧ p.n ≤ p.c ∧ p.c ≤ maxLen
theorem DataOK.sub {p : FrS} {H H' : HL} (h : DataOK p H) (hs : ∀ b, b ∈ H → b ∈ H') : DataOK p H' := by
  obtain ⟨g, junk, h1, h2, h3⟩ := h
  exact ⟨g, junk, h1, hs _ h2, h3⟩
theorem FsL.mk {W w : World} {H : HL} {g o : Nat} {cs : List Value} {ps : List FrS} (ho : Own W w H) (hm : (⟨g, 26, cs⟩ : B) ∈ H) (hcs : ∀ i f, ps[i]? = some f → ∀ j v, f.cells[j]? = some v → cs[o + i * 5 + j]? = some v) (hd : ∀ p ∈ ps, DataOK p H) : FsL w (some ⟨g, o, none⟩) ps := fun _ =>
  ⟨g, o, rfl, fun i f hf => by
    obtain ⟨g2, junk, h1, h2, h3, h4, h5⟩ := hd f (List.mem_of_getElem? hf)
    refine ⟨fun j v hj => ?_, ?_, h3, h4, h5⟩
    · rw [addr_add, (ho.blk _ hm).2.cell]; exact hcs i f hf j v hj
    · rw [h1]; exact FS.blk ho h2⟩
theorem cutAt_lt {g o i c s : Nat} (h : i < c) : cutAt g o i c s = some ⟨g, o + i * s, none⟩ := by
  unfold cutAt; rw [if_neg (by omega)]
theorem concatJ (g gp m c0 c1 : Nat) (ps : List FrS) (W : World) (hm : m < ps.length) (hx : ps.length ≤ 1000) (hc0 : W.cell? ⟨g, 0, none⟩ = some (.slice (some ⟨gp, 0 + m * 5, none⟩) (ps.length - m) c0)) (hc1 : W.cell? ⟨g, 1, none⟩ = some (.slice (some ⟨gp, 0, none⟩) m c1))
    (hr : ∀ j u, (frC ps)[j]? = some u → W.cell? ⟨gp, j, none⟩ = some u) : Fn_ Try.prog 11 #[.slice (some ⟨g, 0, none⟩) 2 2] W (fun v H => Row 26 5 v (ps.drop m ++ ps.take m).length (frC (ps.drop m ++ ps.take m)) H) := by
  have h := concat2 g gp (fun k => if k = 0 then 0 + m * 5 else 0) (fun k => if k = 0 then ps.length - m else m) (fun k => if k = 0 then c0 else c1) (fun k => if k = 0 then frC (ps.drop m) else frC (ps.take m)) W
    (fun k hk => match k, hk with | 0, _ => hc0 | 1, _ => hc1) (fun k hk => match k, hk with
      | 0, _ => fun j u hj => by
        rw [addr_add]
        refine hr _ u ?_
        have := frC_sub [] hj (by omega)
        simpa using this
      | 1, _ => fun j u hj => by
        rw [addr_add]
        refine hr _ u ?_
        have := frC_pre (m := m) [] hj
        simpa using this)
    (fun k hk => match k, hk with
      | 0, _ => by show (frC (ps.drop m)).length = (ps.length - m) * 5; rw [frC_len, List.length_drop]
      | 1, _ => by show (frC (ps.take m)).length = m * 5; rw [frC_len, List.length_take, Nat.min_eq_left (by omega)])
    (fun k hk => match k, hk with | 0, _ => frC_one _ | 1, _ => frC_one _) (fun k hk => match k, hk with
      | 0, _ => by show 0 + (ps.length - m) ≤ 100000; omega
      | 1, _ => by show 0 + (ps.length - m) + m ≤ 100000; omega) (by show 0 < 0 + (ps.length - m) + m; omega)
  have e1 : (ps.drop m ++ ps.take m).length = 0 + (ps.length - m) + m := by rw [List.length_append, List.length_drop, List.length_take]; omega
  have e2 : frC (ps.drop m ++ ps.take m) = ([] ++ frC (ps.drop m)) ++ frC (ps.take m) := by rw [frC_app, List.nil_append]
  rw [e1, e2]
  exact h
theorem rgs_get {l : List Rg} {k : Nat} {t : Rg} (h : l[k]? = some t) (junk : List Value) : ((rgs l ++ junk).drop (0 + ((k : Nat) : Int).toNat * 4)).take 4 = rgc t := by
  rw [Nat.zero_add, Int.toNat_natCast]
  induction l generalizing k with
  | nil => simp at h
  | cons q l ih =>
    match k with
    | 0 =>
      simp only [List.getElem?_cons_zero, Option.some.injEq] at h
      subst h; rfl
    | k + 1 =>
      have h4 : (rgc q).length = 4 := rfl
      show ((rgc q ++ rgs l ++ junk).drop ((k + 1) * 4)).take 4 = _
      rw [List.append_assoc, show (k + 1) * 4 = 4 + k * 4 by omega, ← List.drop_drop, List.drop_left' h4]
      exact ih (by simpa using h)
theorem tl_ok {X Y side : Int} {a b : Nat} (h : tErr X Y a b side = 0) : 1 ≤ side.toNat ∧ tL X Y a b side = rowsL X Y a b side.toNat (cntI Y b side.toNat) := by
  refine ⟨?_, ?_⟩
  · unfold tErr at h
    split at h
    · rename_i h1; exact absurd h h1
    · split at h
      · cases h
      · omega
  · unfold tL; rw [if_pos h]; rfl
theorem tl_len {X Y : Int} {a b s : Nat} (hs : 1 ≤ s) (ha : 1 ≤ a ∧ a ≤ 8) (hb : 1 ≤ b ∧ b ≤ 8) : 0 < (rowsL X Y a b s (cntI Y b s)).length ∧ (rowsL X Y a b s (cntI Y b s)).length ≤ 81 := by
  constructor
  · have h := tiles_once (X := X) (Y := Y) (u := X) (v := Y) hs ha.1 hb.1 (by omega) (by omega) (by omega) (by omega)
    have := List.countP_le_length (p := inT X Y) (l := rowsL X Y a b s (cntI Y b s))
    omega
  · rw [rowsL_len]
    have h1 := cntI_le (X := X) (w := a) hs
    have h2 := cntI_le (X := Y) (w := b) hs
    exact Nat.le_trans (Nat.mul_le_mul h2 h1) (Nat.le_trans (Nat.mul_le_mul (show b + 1 ≤ 9 by omega) (show a + 1 ≤ 9 by omega)) (by decide))
theorem rem_at (t : Int) {n : Nat} (hn : 0 < n) : ∃ m : Nat, (t.tmod n + n).tmod n = (m : Int) ∧ m < n ∧ -(n : Int) < t.tmod n ∧ t.tmod n < n := by
  have h1 : (t.tmod n).natAbs < n := by
    rw [Int.natAbs_tmod]
    exact Nat.mod_lt _ (by simpa using hn)
  have h2 : 0 ≤ t.tmod n + n := by omega
  obtain ⟨q, hq⟩ : ∃ q : Nat, t.tmod n + n = (q : Int) := ⟨(t.tmod n + n).toNat, by omega⟩
  refine ⟨q % n, ?_, Nat.mod_lt _ hn, by omega, by omega⟩
  rw [hq]; exact (Int.ofNat_tmod q n).symm
theorem rot_perm {ps : List FrS} (m : Nat) : (ps.drop m ++ ps.take m).Perm ps := by
  have := List.perm_append_comm (l₁ := ps.drop m) (l₂ := ps.take m)
  rwa [List.take_append_drop] at this

theorem FrR.ok0 {X Y wi he : Int} {vals : List Nat} {v : Value} {H : HL} (h : FrR 0 X Y wi he vals v H) : ∃ g cap junk, v = .tuple #[.agg #[iv X, iv Y, iv wi, iv he, .slice (some ⟨g, 0, none⟩) vals.length cap], iv 0] ∧ H = [⟨g, 43, vals.map flt ++ junk⟩] ∧ vals.length ≤ cap ∧ cap ≤ maxLen := by
  rcases h with ⟨_, h⟩ | ⟨h, _⟩
  · exact h
  · exact absurd rfl h
theorem FrR.bad0 {e X Y wi he : Int} {vals : List Nat} {v : Value} {H : HL} (h : FrR e X Y wi he vals v H) (h0 : e ≠ 0) : v = .tuple #[.agg #[iv 0, iv 0, iv 0, iv 0, .slice none 0 0], iv e] ∧ H = [] := by
  rcases h with ⟨h, _⟩ | ⟨_, h⟩
  · exact absurd h h0
  · exact h
theorem frErr_sm {X Y : Int} {a b n : Nat} (hn : n = 4 * (a * b)) (ha : 1 ≤ a ∧ a ≤ 8) (hb : 1 ≤ b ∧ b ≤ 8) (hX : -1000 ≤ X ∧ X ≤ 1000) (hY : -1000 ≤ Y ∧ Y ≤ 1000) : frErr X Y a b n = 0 := by
  have h6 : ((a * b : Nat) : Int) = (a : Int) * (b : Int) := Int.natCast_mul ..
  have h7 : 4 * (a : Int) * (b : Int) = 4 * ((a : Int) * (b : Int)) := Int.mul_assoc ..
  unfold frErr
  rw [if_neg (by rw [regErr_small ha hb hX hY]; decide), if_neg (by omega)]

set_option maxHeartbeats 16000000 in
set_option maxRecDepth 100000 in
theorem framesJoin (fx fy fw fh : Int) (Af : Option Addr) (nf cf : Nat) (xs : List Nat) (side turn : Int) (A : Option Addr) (c : Nat) (fs : List FrS) (X Y w_ h_ : Int) (W : World) (hn : xs.length = nf) (hAf : FS W Af xs) (hlx : nf ≤ maxLen) (hA : FsL W A fs) (hm : fs.length ≤ maxLen) (hfb : ∀ f ∈ fs, -9223372036854775808 ≤ f.x ∧ f.x ≤ 9223372036854775807) (bx : -9223372036854775808 ≤ X ∧ X ≤ 9223372036854775807) : Fn_ Try.prog 3 #[.agg #[iv fx, iv fy, iv fw, iv fh, .slice Af nf cf], iv side, iv turn, .slice A fs.length c, .agg #[iv X, iv Y, iv w_, iv h_]] W (fun v H => v = .bool true ∧ H = []) := by
  refine Fn_.intro Try.func3 rfl rfl (by rfl) ?_
  refine CS.seq ?_
  refine CS.region ?_
  refine RS.box rfl (by rfl) (by rfl) ?_
  intro g5
  refine RS.box rfl (by rfl) (by rfl) ?_
  intro g9
  refine RS.q rfl (QO.assign) ?_
  refine RS.nil ?_
  refine thenC_n ?_
  refine CS.seq ?_
  refine CS.seq ?_
  refine CS.region ?_
  refine RS.call rfl (by rfl) ok4 (by rfl) (fun w ho => landed _) ?_
  rintro _ _ ⟨rfl, rfl⟩
  refine RS.q rfl (QO.not (by rfl)) ?_
  refine RS.nil ?_
  refine thenC_n ?_
  refine CS.condF (by rfl) rfl ?_
  refine CS.skip ?_
  refine thenC_n ?_
  refine CS.seq ?_
  refine CS.region ?_
  first | (refine RS.q rfl (QO.loadB ty26 (by rfl) (by repeat (first | exact List.Mem.head _ | refine List.Mem.tail _ ?_)) (by rfl)) ?_) | (refine RS.q rfl (QO.loadA ty26 (by rfl) (by repeat (first | exact List.Mem.head _ | refine List.Mem.tail _ ?_)) (by rfl) (by rfl)) ?_) | (refine RS.q rfl (QO.loadOA ty26 (by rfl) (by assumption) (by rfl)) ?_)
  refine RS.call rfl (by rfl) ok5 (by rfl) (fun w ho => fit' fx fy fw fh Af nf cf xs w hn (hAf.own ho) hlx) ?_
  intro v25 H25 h25
  obtain ⟨gf, Xf, Yf, a, b, ys, rfl, rfl, hys, ha, hb, hX, hY, hab⟩ := h25
  first | refine RS.storeB ty26 (by rfl) (by rfl) (by rfl) (by rfl) (by rfl) (by repeat (first | exact Upd.head | apply Upd.tail | exact Upd.app _ Upd.head)) (by rfl) ?_ | refine RS.storeP ty26 (by rfl) (by rfl) (by rfl) (by rfl) (by rfl) (by repeat (first | exact Upd.head | apply Upd.tail | exact Upd.app _ Upd.head)) (by rfl) ?_
  refine RS.nil ?_
  refine thenC_n ?_
  refine CS.seq ?_
  refine CS.region ?_
  first | (refine RS.q rfl (QO.loadB ty23 (by rfl) (by repeat (first | exact List.Mem.head _ | refine List.Mem.tail _ ?_)) (by rfl)) ?_) | (refine RS.q rfl (QO.loadA ty23 (by rfl) (by repeat (first | exact List.Mem.head _ | refine List.Mem.tail _ ?_)) (by rfl) (by rfl)) ?_) | (refine RS.q rfl (QO.loadOA ty23 (by rfl) (by assumption) (by rfl)) ?_)
  refine RS.q rfl (QO.move) ?_
  refine RS.call rfl (by rfl) ok6 (by rfl) (fun w ho => join_ X Y w_ h_ A c fs _ (hA.own ho) hm) ?_
  intro v29 H29 h29
  have k29 := h29.any
  clear h29
  obtain ⟨u1, u2, u3, u4, A1, n1, c1, rfl, hv1⟩ := k29
  refine RS.perm List.perm_append_comm ?_
  refine RS.q rfl (QO.move) ?_
  refine RS.q rfl (QO.extract (by rfl) (by rfl)) ?_
  refine RS.q rfl (QO.extract (by rfl) (by rfl)) ?_
  refine RS.alloc rfl ty26 ?_
  intro g11
  first | refine RS.storeB ty26 (by rfl) (by rfl) (by rfl) (by rfl) (by rfl) (by repeat (first | exact Upd.head | apply Upd.tail | exact Upd.app _ Upd.head)) (by rfl) ?_ | refine RS.storeP ty26 (by rfl) (by rfl) (by rfl) (by rfl) (by rfl) (by repeat (first | exact Upd.head | apply Upd.tail | exact Upd.app _ Upd.head)) (by rfl) ?_
  refine RS.q rfl (QO.assign) ?_
  refine RS.nil ?_
  refine thenC_n ?_
  refine CS.seq ?_
  refine CS.region ?_
  first | (refine RS.q rfl (QO.loadB ty23 (by rfl) (by repeat (first | exact List.Mem.head _ | refine List.Mem.tail _ ?_)) (by rfl)) ?_) | (refine RS.q rfl (QO.loadA ty23 (by rfl) (by repeat (first | exact List.Mem.head _ | refine List.Mem.tail _ ?_)) (by rfl) (by rfl)) ?_) | (refine RS.q rfl (QO.loadOA ty23 (by rfl) (by assumption) (by rfl)) ?_)
  refine RS.q rfl (QO.move) ?_
  refine RS.call rfl (by rfl) ok7 (by rfl) (fun w ho => rjoin_ X Y w_ h_ A c fs _ (hA.own ho) hm hfb bx) ?_
  intro v35 H35 h35
  have k35 := h35.any
  clear h35
  obtain ⟨t1, t2, t3, t4, A2, n2, c2, rfl, hv2⟩ := k35
  refine RS.perm List.perm_append_comm ?_
  refine RS.q rfl (QO.move) ?_
  refine RS.q rfl (QO.extract (by rfl) (by rfl)) ?_
  refine RS.q rfl (QO.extract (by rfl) (by rfl)) ?_
  refine RS.alloc rfl ty26 ?_
  intro g13
  first | refine RS.storeB ty26 (by rfl) (by rfl) (by rfl) (by rfl) (by rfl) (by repeat (first | exact Upd.head | apply Upd.tail | exact Upd.app _ Upd.head)) (by rfl) ?_ | refine RS.storeP ty26 (by rfl) (by rfl) (by rfl) (by rfl) (by rfl) (by repeat (first | exact Upd.head | apply Upd.tail | exact Upd.app _ Upd.head)) (by rfl) ?_
  refine RS.q rfl (QO.assign) ?_
  refine RS.nil ?_
  refine thenC_n ?_
  refine CS.cut (X := Unit) [10, 38, 39, 40, 41, 42, 43] (fun z => []) (fun z => [⟨gf, 43, ys.map flt⟩, ⟨g5, 26, [iv Xf, iv Yf, iv (a : Int), iv (b : Int), .slice (some ⟨gf, 0, none⟩) ys.length ys.length]⟩, ⟨g11, 26, [iv u1, iv u2, iv u3, iv u4, .slice A1 n1 c1]⟩]) (fun z => True) ?_ ?_
  · refine CS.seq ?_
    refine CS.region ?_
    first | (refine RS.q rfl (QO.loadB ty26 (by rfl) (by repeat (first | exact List.Mem.head _ | refine List.Mem.tail _ ?_)) (by rfl)) ?_) | (refine RS.q rfl (QO.loadA ty26 (by rfl) (by repeat (first | exact List.Mem.head _ | refine List.Mem.tail _ ?_)) (by rfl) (by rfl)) ?_) | (refine RS.q rfl (QO.loadOA ty26 (by rfl) (by assumption) (by rfl)) ?_)
    refine RS.q rfl (QO.move) ?_
    first | (refine RS.q rfl (QO.loadB ty26 (by rfl) (by repeat (first | exact List.Mem.head _ | refine List.Mem.tail _ ?_)) (by rfl)) ?_) | (refine RS.q rfl (QO.loadA ty26 (by rfl) (by repeat (first | exact List.Mem.head _ | refine List.Mem.tail _ ?_)) (by rfl) (by rfl)) ?_) | (refine RS.q rfl (QO.loadOA ty26 (by rfl) (by assumption) (by rfl)) ?_)
    refine RS.q rfl (QO.move) ?_
    refine RS.call rfl (by rfl) ok8 (by rfl) (fun w ho => alike (jErr X Y w_ h_ fs) X Y w_ h_ (jVals (jEnd X Y w_.toNat fs js0) (w_.toNat * h_.toNat)) u1 u2 u3 u4 t1 t2 t3 t4 A1 A2 n1 c1 n2 c2 _ (hv1.fw ho (fun q hq => by simp [hq])) (hv2.fw ho (fun q hq => by simp [hq]))) ?_
    rintro _ _ ⟨rfl, rfl⟩
    refine RS.q rfl (QO.not (by rfl)) ?_
    refine RS.nil ?_
    refine thenC_n ?_
    refine CS.condF (by rfl) rfl ?_
    refine CS.skip ?_
    refine cutQ_n (by intro t ht; repeat (first | with_reducible exact rfl | exact frame_puts ht (frame_mix ht) _ rfl | (refine frame_put rfl ht ?_) | (refine frame_puts ht ?_ _ rfl) | exact frame_mix ht | (refine frame_mix2 rfl ht ?_) | exact rfl)) ?_
    exact ⟨(), trivial, (by repeat (first | exact kn_nil | refine kn_cons (by rfl) ?_)), (by repeat (first | exact List.Sublist.refl _ | exact List.nil_sublist _ | refine List.Sublist.cons_cons _ ?_ | refine List.Sublist.cons _ ?_ | exact Sbp.refl | exact Sbp.nil | refine Sbp.cons (by repeat (first | exact Rem.head | apply Rem.tail)) ?_ | exact Sbp.app | refine Sbp.skip ?_ | exact List.sublist_append_left _ _ | exact List.sublist_append_right _ _))⟩
  · intro z gj hz
    refine CS.seq ?_
    refine CS.region ?_
    refine RS.q rfl (QO.fieldAddr fo26_0 (by rfl)) ?_
    first | (refine RS.q rfl (QO.loadB ty23 (by rfl) (by repeat (first | exact List.Mem.head _ | refine List.Mem.tail _ ?_)) (by rfl)) ?_) | (refine RS.q rfl (QO.loadA ty23 (by rfl) (by repeat (first | exact List.Mem.head _ | refine List.Mem.tail _ ?_)) (by rfl) (by rfl)) ?_) | (refine RS.q rfl (QO.loadOA ty23 (by rfl) (by assumption) (by rfl)) ?_)
    refine RS.q rfl (QO.move) ?_
    refine RS.call rfl (by rfl) ok9 (by rfl) (fun w ho => tiles Xf Yf a b side _) ?_
    intro v48 H48 h48
    obtain ⟨vt, rfl, hrowT⟩ := h48
    refine RS.q rfl (QO.move) ?_
    refine RS.q rfl (QO.extract (by rfl) (by rfl)) ?_
    refine RS.q rfl (QO.extract (by rfl) (by rfl)) ?_
    refine RS.q rfl (QO.assign) ?_
    refine RS.q rfl (QO.assign) ?_
    refine RS.nil ?_
    refine thenC_n ?_
    refine CS.seq ?_
    refine CS.seq ?_
    refine CS.region ?_
    refine RS.q rfl (QO.move) ?_
    refine RS.q rfl (QO.neq (by rfl) (by rfl)) ?_
    refine RS.nil ?_
    refine thenC_n ?_
    refine CS.cond (by rfl) (fun hb0 => ?_) (fun hb0 => ?_)
    · have hb0p := bne_iff_ne.1 hb0
      refine CS.seq ?_
      refine CS.region ?_
      refine RS.q rfl (QO.assign) ?_
      refine RS.nil ?_
      refine thenC_n ?_
      refine CS.ret ?_
      refine thenC_r ?_
      refine retQ.mk (H' := []) (.inr rfl) (RVs.tmp (by rfl) RVs.nil) (List.nil_sublist _) ?_
      exact ⟨rfl, rfl⟩
    · have hb0p := of_bne_false hb0
      refine CS.skip ?_
      refine thenC_n ?_
      refine CS.seq ?_
      refine CS.region ?_
      refine RS.q rfl (QO.assign) ?_
      refine RS.nil ?_
      refine thenC_n ?_
      refine CS.seq ?_
      refine CS.seq ?_
      refine CS.region ?_
      have hte : tErr Xf Yf a b side = 0 := by assumption
      have hTl := tl_ok hte
      have hTe := hTl.2
      have hTn := tl_len (X := Xf) (Y := Yf) hTl.1 ha hb
      rw [← hTe] at hTn
      have hxT := hrowT.some hTn.1
      obtain ⟨gT, cT, jT, hvT, hHT, _, _, _⟩ := hxT
      subst hvT
      subst hHT
      refine RS.q rfl (QO.move) ?_
      refine RS.q rfl (QO.lenS Try.underlying34 (by rfl)) ?_
      refine RS.q rfl (QO.move) ?_
      refine RS.nil ?_
      refine thenC_n ?_
      refine CS.block ?_
      refine CS.loop (X := Nat × List FrS × Value × HL × HL) (10 :: 16 :: 18 :: 19 :: 20 :: 55 :: 56 :: 57 :: 58 :: 59 :: 60 :: 61 :: 62 :: 63 :: 64 :: 65 :: 66 :: 67 :: 68 :: 69 :: 70 :: 71 :: []) (fun z => [(55, iv (z.1 : Int)), (16, z.2.2.1)]) (fun z => ⟨gT, 23, rgs (tL Xf Yf a b side) ++ jT⟩ :: ⟨gf, 43, ys.map flt⟩ :: ⟨g5, 26, [iv Xf, iv Yf, iv (a : Int), iv (b : Int), .slice (some ⟨gf, 0, none⟩) ys.length ys.length]⟩ :: ⟨g11, 26, [iv u1, iv u2, iv u3, iv u4, .slice A1 n1 c1]⟩ :: (z.2.2.2.2 ++ z.2.2.2.1)) (fun z => z.1 ≤ (tL Xf Yf a b side).length ∧ z.2.1.map rgOf = (tL Xf Yf a b side).take z.1 ∧ (∀ p ∈ z.2.1, PartOk ys Xf Yf a b p ∧ DataOK p z.2.2.2.2) ∧ Row 26 5 z.2.2.1 z.2.1.length (frC z.2.1) z.2.2.2.1) (fun z => (tL Xf Yf a b side).length - z.1) (0, [], .slice none 0 0, [], []) ⟨Nat.zero_le _, rfl, fun p hp => by simp at hp, .nil⟩ ?_ ?_ ?_
      · exact kn_cons (by rfl) (kn_cons (by rfl) kn_nil)
      · exact (by repeat (first | exact List.Sublist.refl _ | exact List.nil_sublist _ | refine List.Sublist.cons_cons _ ?_ | refine List.Sublist.cons _ ?_ | exact Sbp.refl | exact Sbp.nil | refine Sbp.cons (by repeat (first | exact Rem.head | apply Rem.tail)) ?_ | exact Sbp.app | refine Sbp.skip ?_ | exact List.sublist_append_left _ _ | exact List.sublist_append_right _ _))
      · intro z gj13 hz
        obtain ⟨k, ps, vp, Hp, Hf⟩ := z
        obtain ⟨hk, hpT, hpd, hrow⟩ := hz
        simp only at hk hpT hpd hrow
        show CS _ _ _ _ _ (puts (mix _ _ _) [(55, iv (k : Int)), (16, vp)]) (⟨gT, 23, rgs (tL Xf Yf a b side) ++ jT⟩ :: ⟨gf, 43, ys.map flt⟩ :: ⟨g5, 26, [iv Xf, iv Yf, iv (a : Int), iv (b : Int), .slice (some ⟨gf, 0, none⟩) ys.length ys.length]⟩ :: ⟨g11, 26, [iv u1, iv u2, iv u3, iv u4, .slice A1 n1 c1]⟩ :: (Hf ++ Hp))
        refine CS.seq ?_
        refine CS.region ?_
        refine RS.q rfl (QO.lss (by rfl) (by rfl)) ?_
        refine RS.nil ?_
        refine thenC_n ?_
        refine CS.seq ?_
        refine CS.cond (by rfl) (fun hb1 => ?_) (fun hb1 => ?_)
        · have hb1p := of_decide_eq_true hb1
          refine CS.skip ?_
          refine thenC_n ?_
          refine CS.seq ?_
          refine CS.block ?_
          refine CS.seq ?_
          refine CS.region ?_
          have hkl : k < (tL Xf Yf a b side).length := by omega
          have hxt : ∃ t, (tL Xf Yf a b side)[k]? = some t := ⟨_, List.getElem?_eq_getElem hkl⟩
          obtain ⟨t, ht⟩ := hxt
          have htm : t ∈ rowsL Xf Yf a b side.toNat (cntI Yf b side.toNat) := by rw [← hTe]; exact List.mem_of_getElem? ht
          have hti := part_fr (p := ⟨t.1, t.2.1, t.2.2.1, t.2.2.2, 0, 0, none, []⟩) hTl.1 ha hb hX hY htm
          simp only at hti
          refine RS.q rfl (QO.idx Try.underlying34 ty23 (by rfl) (by rfl) (by omega) (by omega)) ?_
          refine RS.q rfl (QO.loadA ty23 (by rfl) (by repeat (first | exact List.Mem.head _ | refine List.Mem.tail _ ?_)) (rgs_get ht _) rfl) ?_
          refine RS.alloc rfl ty23 ?_
          intro g18
          first | refine RS.storeB ty23 (by rfl) (by rfl) (by rfl) (by rfl) (by rfl) (by repeat (first | exact Upd.head | apply Upd.tail | exact Upd.app _ Upd.head)) (by rfl) ?_ | refine RS.storeP ty23 (by rfl) (by rfl) (by rfl) (by rfl) (by rfl) (by repeat (first | exact Upd.head | apply Upd.tail | exact Upd.app _ Upd.head)) (by rfl) ?_
          refine RS.nil ?_
          refine thenC_n ?_
          refine CS.seq ?_
          refine CS.region ?_
          first | (refine RS.q rfl (QO.loadB ty26 (by rfl) (by repeat (first | exact List.Mem.head _ | refine List.Mem.tail _ ?_)) (by rfl)) ?_) | (refine RS.q rfl (QO.loadA ty26 (by rfl) (by repeat (first | exact List.Mem.head _ | refine List.Mem.tail _ ?_)) (by rfl) (by rfl)) ?_) | (refine RS.q rfl (QO.loadOA ty26 (by rfl) (by assumption) (by rfl)) ?_)
          first | (refine RS.q rfl (QO.loadB ty23 (by rfl) (by repeat (first | exact List.Mem.head _ | refine List.Mem.tail _ ?_)) (by rfl)) ?_) | (refine RS.q rfl (QO.loadA ty23 (by rfl) (by repeat (first | exact List.Mem.head _ | refine List.Mem.tail _ ?_)) (by rfl) (by rfl)) ?_) | (refine RS.q rfl (QO.loadOA ty23 (by rfl) (by assumption) (by rfl)) ?_)
          refine RS.call rfl (by rfl) ok10 (by rfl) (fun w ho => cut_ Xf Yf a b _ _ _ ys t.1 t.2.1 t.2.2.1 t.2.2.2 _ rfl (FS.blk' ho (by repeat (first | exact List.Mem.head _ | refine List.Mem.tail _ ?_))) hys (Nat.le_refl _) (by unfold maxLen; omega) (by omega) (by omega) (by omega) (by omega) (frErr_sm hys ha hb hX hY)) ?_
          intro v62 H62 h62
          have hc0 := cut_3 hti.1 hti.2.1
          rw [hc0] at h62
          have k62 := FrR.ok0 h62
          clear h62
          obtain ⟨gz, cz, jz, rfl, rfl, hcz1, hcz2⟩ := k62
          refine RS.q rfl (QO.move) ?_
          refine RS.q rfl (QO.extract (by rfl) (by rfl)) ?_
          refine RS.q rfl (QO.extract (by rfl) (by rfl)) ?_
          refine RS.alloc rfl ty26 ?_
          intro g19
          first | refine RS.storeB ty26 (by rfl) (by rfl) (by rfl) (by rfl) (by rfl) (by repeat (first | exact Upd.head | apply Upd.tail | exact Upd.app _ Upd.head)) (by rfl) ?_ | refine RS.storeP ty26 (by rfl) (by rfl) (by rfl) (by rfl) (by rfl) (by repeat (first | exact Upd.head | apply Upd.tail | exact Upd.app _ Upd.head)) (by rfl) ?_
          refine RS.q rfl (QO.assign) ?_
          refine RS.nil ?_
          refine thenC_n ?_
          refine CS.seq ?_
          refine CS.seq ?_
          refine CS.region ?_
          refine RS.q rfl (QO.move) ?_
          refine RS.q rfl (QO.neq (by rfl) (by rfl)) ?_
          refine RS.nil ?_
          refine thenC_n ?_
          refine CS.condF (by rfl) rfl ?_
          refine CS.skip ?_
          refine thenC_n ?_
          refine CS.region ?_
          have hpl := congrArg List.length hpT
          rw [List.length_map, List.length_take, Nat.min_eq_left (by omega)] at hpl
          refine RS.q rfl (QO.move) ?_
          first | (refine RS.q rfl (QO.loadB ty26 (by rfl) (by repeat (first | exact List.Mem.head _ | refine List.Mem.tail _ ?_)) (by rfl)) ?_) | (refine RS.q rfl (QO.loadA ty26 (by rfl) (by repeat (first | exact List.Mem.head _ | refine List.Mem.tail _ ?_)) (by rfl) (by rfl)) ?_) | (refine RS.q rfl (QO.loadOA ty26 (by rfl) (by assumption) (by rfl)) ?_)
          refine RS.buildSlice rfl Try.underlying27 ty26 (by decide) (by decide) (by rfl) (by rfl) ?_
          intro g69
          refine RS.appendRow rfl Try.underlying27 ty26 (by rfl) hrow (by repeat (first | exact Suf.base | exact Suf.any _ _ | apply Suf.cons)) (by rfl) (Src.blk (by repeat (first | exact List.Mem.head _ | refine List.Mem.tail _ ?_))) (by rfl) (by rfl) (by decide) (by decide) (by unfold maxLen; omega) (by omega) ?_
          intro v70 H70 hrow70
          refine RS.q rfl (QO.assign) ?_
          refine RS.nil ?_
          refine blockC_n ?_
          refine thenC_n ?_
          refine CS.region ?_
          first | (refine RS.q rfl (QO.add (by rfl) (by rfl) (by omega) (by omega)) ?_) | (refine RS.q rfl (QO.ibin (by rfl) (by rfl) trivial) ?_)
          refine RS.q rfl (QO.move) ?_
          refine RS.nil ?_
          refine loopQ_n (by intro t ht; repeat (first | with_reducible exact rfl | exact frame_puts ht (frame_mix ht) _ rfl | (refine frame_put rfl ht ?_) | (refine frame_puts ht ?_ _ rfl) | exact frame_mix ht | (refine frame_mix2 rfl ht ?_) | exact rfl)) ?_
          have hrw : Row 26 5 v70 (ps ++ [(⟨t.1, t.2.1, t.2.2.1, t.2.2.2, (cutV ys Xf Yf a b t.1 t.2.1 t.2.2.1 t.2.2.2).length, cz, some ⟨gz, 0, none⟩, (cutV ys Xf Yf a b t.1 t.2.1 t.2.2.1 t.2.2.2)⟩ : FrS)]).length (frC (ps ++ [(⟨t.1, t.2.1, t.2.2.1, t.2.2.2, (cutV ys Xf Yf a b t.1 t.2.1 t.2.2.1 t.2.2.2).length, cz, some ⟨gz, 0, none⟩, (cutV ys Xf Yf a b t.1 t.2.1 t.2.2.1 t.2.2.2)⟩ : FrS)])) H70 := by rw [frC_app, List.length_append]; exact hrow70
          have hpT2 : (ps ++ [(⟨t.1, t.2.1, t.2.2.1, t.2.2.2, (cutV ys Xf Yf a b t.1 t.2.1 t.2.2.1 t.2.2.2).length, cz, some ⟨gz, 0, none⟩, (cutV ys Xf Yf a b t.1 t.2.1 t.2.2.1 t.2.2.2)⟩ : FrS)]).map rgOf = (tL Xf Yf a b side).take (k + 1) := by rw [List.map_append, hpT, List.take_add_one, ht]; rfl
          have hpd2 : ∀ p ∈ ps ++ [(⟨t.1, t.2.1, t.2.2.1, t.2.2.2, (cutV ys Xf Yf a b t.1 t.2.1 t.2.2.1 t.2.2.2).length, cz, some ⟨gz, 0, none⟩, (cutV ys Xf Yf a b t.1 t.2.1 t.2.2.1 t.2.2.2)⟩ : FrS)], PartOk ys Xf Yf a b p ∧ DataOK p (⟨gz, 43, (cutV ys Xf Yf a b t.1 t.2.1 t.2.2.1 t.2.2.2).map flt ++ jz⟩ :: Hf) := fun p hp => by
            rcases List.mem_append.1 hp with hp | hp
            · exact ⟨(hpd p hp).1, (hpd p hp).2.sub fun q hq => List.mem_cons_of_mem _ hq⟩
            · rw [List.mem_singleton.1 hp]
              exact ⟨⟨rfl, rfl⟩, gz, jz, rfl, List.mem_cons_self .., rfl, hcz1, hcz2⟩
          exact ⟨(k + 1, ps ++ [(⟨t.1, t.2.1, t.2.2.1, t.2.2.2, (cutV ys Xf Yf a b t.1 t.2.1 t.2.2.1 t.2.2.2).length, cz, some ⟨gz, 0, none⟩, (cutV ys Xf Yf a b t.1 t.2.1 t.2.2.1 t.2.2.2)⟩ : FrS)], v70, H70, ⟨gz, 43, (cutV ys Xf Yf a b t.1 t.2.1 t.2.2.1 t.2.2.2).map flt ++ jz⟩ :: Hf), ⟨by show k + 1 ≤ (tL Xf Yf a b side).length; omega, hpT2, hpd2, hrw⟩, by show (tL Xf Yf a b side).length - (k + 1) < (tL Xf Yf a b side).length - k; omega, kn_cons (by rfl) (kn_cons (by rfl) kn_nil), (by repeat (first | exact List.Sublist.refl _ | exact List.nil_sublist _ | refine List.Sublist.cons_cons _ ?_ | refine List.Sublist.cons _ ?_ | exact Sbp.refl | exact Sbp.nil | refine Sbp.cons (by repeat (first | exact Rem.head | apply Rem.tail)) ?_ | exact Sbp.app | refine Sbp.skip ?_ | exact List.sublist_append_left _ _ | exact List.sublist_append_right _ _))⟩
        · have hb1p := of_decide_eq_false hb1
          refine CS.exit ?_
          refine thenC_x ?_
          refine loopQ_x ?_
          refine blockC_x ?_
          refine thenC_n ?_
          refine CS.seq ?_
          refine CS.region ?_
          have hke : k = (tL Xf Yf a b side).length := by omega
          rw [hke, List.take_length] at hpT
          have hpl := congrArg List.length hpT
          rw [List.length_map] at hpl
          have hx5 := hrow.some (by omega)
          obtain ⟨gp, cp, jp, hvp, hHp, hcp1, hcp2, _⟩ := hx5
          subst hvp
          subst hHp
          have hx6 := rem_at turn (n := ps.length) (by omega)
          obtain ⟨m, hmv, hmn, hmb1, hmb2⟩ := hx6
          have hx7 : ∃ qs, ps.drop m ++ ps.take m = qs := ⟨_, rfl⟩
          obtain ⟨qs, hqs⟩ := hx7
          have hql9 : qs.length = ps.length := by rw [← hqs]; exact (rot_perm m).length_eq
          refine RS.q rfl (QO.move) ?_
          refine RS.q rfl (QO.move) ?_
          refine RS.q rfl (QO.lenS Try.underlying27 (by rfl)) ?_
          refine RS.q rfl (QO.rem (by rfl) (by rfl) (by omega)) ?_
          refine RS.q rfl (QO.move) ?_
          refine RS.q rfl (QO.lenS Try.underlying27 (by rfl)) ?_
          first | (refine RS.q rfl (QO.add (by rfl) (by rfl) (by omega) (by omega)) ?_) | (refine RS.q rfl (QO.ibin (by rfl) (by rfl) trivial) ?_)
          refine RS.q rfl (QO.move) ?_
          refine RS.q rfl (QO.lenS Try.underlying27 (by rfl)) ?_
          refine RS.qv rfl (QO.rem (by rfl) (by rfl) (by omega)) (congrArg iv hmv) ?_
          refine RS.q rfl (QO.assign) ?_
          refine RS.nil ?_
          refine thenC_n ?_
          refine CS.cut (X := List FrS × Nat × Nat × List Value × HL) [16, 82, 83, 84, 85, 86, 87, 88, 89] (fun z => [(16, .slice (some ⟨z.2.1, 0, none⟩) z.1.length z.2.2.1)]) (fun z => ⟨z.2.1, 26, frC z.1 ++ z.2.2.2.1⟩ :: ⟨gf, 43, ys.map flt⟩ :: ⟨g5, 26, [iv Xf, iv Yf, iv (a : Int), iv (b : Int), .slice (some ⟨gf, 0, none⟩) ys.length ys.length]⟩ :: ⟨g11, 26, [iv u1, iv u2, iv u3, iv u4, .slice A1 n1 c1]⟩ :: z.2.2.2.2) (fun z => z.1.length = (tL Xf Yf a b side).length ∧ (z.1.map rgOf).Perm (tL Xf Yf a b side) ∧ (∀ p ∈ z.1, PartOk ys Xf Yf a b p ∧ DataOK p z.2.2.2.2) ∧ z.1.length ≤ z.2.2.1) ?_ ?_
          · refine CS.draw 9 rfl (by kernel_rfl) (by kernel_rfl) ?_
            refine RT.take (i := 0) rfl (by kernel_rfl) rfl (QO.move) ?_
            refine RT.take (i := 1) rfl (by kernel_rfl) rfl (QO.move) ?_
            refine RT.takev (i := 2) rfl (by kernel_rfl) rfl (QO.cutLo Try.underlying27 ty26 (by rfl) (by rfl) (by omega) (by omega)) ((show Value.slice (cutAt gp 0 m cp 5) (ps.length - m) (cp - m) = .slice (some ⟨gp, 0 + m * 5, none⟩) (ps.length - m) (cp - m) by rw [cutAt_lt (by omega)])) ?_
            refine RT.take (i := 3) rfl (by kernel_rfl) rfl (QO.move) ?_
            refine RT.take (i := 4) rfl (by kernel_rfl) rfl (QO.move) ?_
            refine RT.take (i := 5) rfl (by kernel_rfl) rfl (QO.cutHi Try.underlying27 ty26 (by rfl) (by rfl) (by omega) (by omega)) ?_
            refine RT.one (i := 6) (by kernel_rfl) rfl rfl ?_
            refine RS.buildSlice rfl Try.underlying63 ty27 (by decide) (by decide) (by rfl) (by rfl) ?_
            intro g88
            refine RS.nil ⟨(by repeat (first | exact List.Sublist.refl _ | exact List.nil_sublist _ | refine List.Sublist.cons_cons _ ?_ | refine List.Sublist.cons _ ?_ | exact Sbp.refl | exact Sbp.nil | refine Sbp.cons (by repeat (first | exact Rem.head | apply Rem.tail)) ?_ | exact Sbp.app | refine Sbp.skip ?_ | exact List.sublist_append_left _ _ | exact List.sublist_append_right _ _)), ?_⟩
            refine RT.one (i := 7) (by kernel_rfl) rfl rfl ?_
            refine RS.call rfl (by rfl) ok11 (by rfl) (fun w ho => concatJ g88 gp m _ _ ps _ (by omega) (by omega) (ho.cell0 (j := 0) (by repeat (first | exact List.Mem.head _ | refine List.Mem.tail _ ?_)) rfl) (ho.cell0 (j := 1) (by repeat (first | exact List.Mem.head _ | refine List.Mem.tail _ ?_)) rfl) (fun j u hj => ho.cell0 (g := gp) (t := 26) (cs := frC ps ++ jp) (by repeat (first | exact List.Mem.head _ | refine List.Mem.tail _ ?_ | exact List.mem_append_right _ (List.Mem.head _))) (by rw [List.getElem?_append_left (List.getElem?_eq_some_iff.1 hj).1]; exact hj))) ?_
            intro v89 H89 h89
            rw [hqs] at h89
            have k89 := h89.some (by omega)
            obtain ⟨gq, cq, jq, hvq, hHq, hcq1, hcq2, _⟩ := k89
            subst hvq
            subst hHq
            refine RS.nil ⟨(by repeat (first | exact List.Sublist.refl _ | exact List.nil_sublist _ | refine List.Sublist.cons_cons _ ?_ | refine List.Sublist.cons _ ?_ | exact Sbp.refl | exact Sbp.nil | refine Sbp.cons (by repeat (first | exact Rem.head | apply Rem.tail)) ?_ | exact Sbp.app | refine Sbp.skip ?_ | exact List.sublist_append_left _ _ | exact List.sublist_append_right _ _)), ?_⟩
            refine RT.take (i := 8) rfl (by kernel_rfl) rfl (QO.assign) ?_
            refine RT.done (by kernel_rfl) ?_
            refine cutQ_n (by intro t ht; repeat (first | with_reducible exact rfl | exact frame_puts ht (frame_mix ht) _ rfl | (refine frame_put rfl ht ?_) | (refine frame_puts ht ?_ _ rfl) | exact frame_mix ht | (refine frame_mix2 rfl ht ?_) | exact rfl)) ?_
            exact ⟨(qs, gq, cq, jq, Hf), ⟨by rw [← hqs, (rot_perm m).length_eq]; exact hpl, (by rw [← hqs, ← hpT]; exact (rot_perm m).map rgOf), fun p hp => hpd p ((rot_perm (ps := ps) m).subset (by rw [hqs]; exact hp)), hcq1⟩, (by repeat (first | exact kn_nil | refine kn_cons (by rfl) ?_)), (by repeat (first | exact List.Sublist.refl _ | exact List.nil_sublist _ | refine List.Sublist.cons_cons _ ?_ | refine List.Sublist.cons _ ?_ | exact Sbp.refl | exact Sbp.nil | refine Sbp.cons (by repeat (first | exact Rem.head | apply Rem.tail)) ?_ | exact Sbp.app | refine Sbp.skip ?_ | exact List.sublist_append_left _ _ | exact List.sublist_append_right _ _))⟩
          · intro z gj hz
            obtain ⟨qs, gq, cq, jq, Hf⟩ := z
            obtain ⟨hql, hqpm, hqd, hqc⟩ := hz
            simp only at hql hqpm hqd hqc
            have hpd := hqd
            have hqp : ∀ p, p ∈ qs → p ∈ qs := fun _ h => h
            rw [hTe] at hqpm
            have hj0 := join_all (fs := qs) hTl.1 ha hb hX hY hys hqpm (fun p hp => (hqd p hp).1)
            have hx9 : ∃ q0 tl, qs = q0 :: tl := by
              cases qs with
              | nil => simp at hql; omega
              | cons q0 tl => exact ⟨q0, tl, rfl⟩
            obtain ⟨q0, tl, hqt⟩ := hx9
            have htl : tl.length = qs.length - 1 := by rw [hqt]; simp
            have hl10 : jErr Xf Yf (a : Int) (b : Int) tl = 10 := join_less (p0 := q0) hTl.1 ha hb hX hY (by rw [← hqt]; exact hqpm) (fun p hp => (hqd p (by rw [hqt]; exact List.mem_cons_of_mem _ hp)).1)
            show CS _ _ _ _ _ (puts (mix _ _ _) [(16, .slice (some ⟨gq, 0, none⟩) qs.length cq)]) (⟨gq, 26, frC qs ++ jq⟩ :: ⟨gf, 43, ys.map flt⟩ :: ⟨g5, 26, [iv Xf, iv Yf, iv (a : Int), iv (b : Int), .slice (some ⟨gf, 0, none⟩) ys.length ys.length]⟩ :: ⟨g11, 26, [iv u1, iv u2, iv u3, iv u4, .slice A1 n1 c1]⟩ :: Hf)
            refine CS.seq ?_
            refine CS.region ?_
            refine RS.q rfl (QO.fieldAddr fo26_0 (by rfl)) ?_
            first | (refine RS.q rfl (QO.loadB ty23 (by rfl) (by repeat (first | exact List.Mem.head _ | refine List.Mem.tail _ ?_)) (by rfl)) ?_) | (refine RS.q rfl (QO.loadA ty23 (by rfl) (by repeat (first | exact List.Mem.head _ | refine List.Mem.tail _ ?_)) (by rfl) (by rfl)) ?_) | (refine RS.q rfl (QO.loadOA ty23 (by rfl) (by assumption) (by rfl)) ?_)
            refine RS.q rfl (QO.move) ?_
            refine RS.call rfl (by rfl) ok6 (by rfl) (fun w ho => join_ Xf Yf a b (some ⟨gq, 0, none⟩) cq qs _ (FsL.mk ho (by repeat (first | exact List.Mem.head _ | refine List.Mem.tail _ ?_)) (fun i f hf j v hj => by rw [Nat.zero_add]; exact frC_at hf hj _) (fun p hp => ((hpd p (hqp p hp)).2).sub (fun q hq => by simp only [List.mem_cons, List.mem_append, hq, or_true, true_or]))) (by unfold maxLen; omega)) ?_
            intro v94 H94 h94
            have h94 : FrR 0 Xf Yf (a : Int) (b : Int) (ys.map cl) v94 H94 := by rw [← hj0.1, ← hj0.2]; exact h94
            have k94 := FrR.ok0 h94
            clear h94
            obtain ⟨gw, cw, jw, rfl, rfl, hcw1, hcw2⟩ := k94
            refine RS.q rfl (QO.move) ?_
            refine RS.q rfl (QO.extract (by rfl) (by rfl)) ?_
            refine RS.q rfl (QO.extract (by rfl) (by rfl)) ?_
            first | refine RS.storeB ty26 (by rfl) (by rfl) (by rfl) (by rfl) (by rfl) (by repeat (first | exact Upd.head | apply Upd.tail | exact Upd.app _ Upd.head)) (by rfl) ?_ | refine RS.storeP ty26 (by rfl) (by rfl) (by rfl) (by rfl) (by rfl) (by repeat (first | exact Upd.head | apply Upd.tail | exact Upd.app _ Upd.head)) (by rfl) ?_
            refine RS.q rfl (QO.assign) ?_
            refine RS.nil ?_
            refine thenC_n ?_
            refine CS.seq ?_
            refine CS.seq ?_
            refine CS.drawS (HS := [⟨g5, 26, [iv Xf, iv Yf, iv (a : Int), iv (b : Int), .slice (some ⟨gf, 0, none⟩) ys.length ys.length]⟩, ⟨g11, 26, [iv Xf, iv Yf, iv (a : Int), iv (b : Int), .slice (some ⟨gw, 0, none⟩) (ys.map cl).length cw]⟩]) 9 (by repeat (first | exact List.Sublist.refl _ | exact List.nil_sublist _ | refine List.Sublist.cons_cons _ ?_ | refine List.Sublist.cons _ ?_ | exact Sbp.refl | exact Sbp.nil | refine Sbp.cons (by repeat (first | exact Rem.head | apply Rem.tail)) ?_ | exact Sbp.app | refine Sbp.skip ?_ | exact List.sublist_append_left _ _ | exact List.sublist_append_right _ _)) rfl (by kernel_rfl) (by kernel_rfl) ?_
            refine RT.take (i := 0) rfl (by kernel_rfl) rfl (QO.move) ?_
            refine RT.take (i := 1) rfl (by kernel_rfl) rfl (QO.neq (by rfl) (by rfl)) ?_
            refine RT.take (i := 2) rfl (by kernel_rfl) rfl (QO.move) ?_
            first | (refine RT.takeOn (i := 3) (dj := 99) rfl rfl (congrArg Value.bool rfl) (by kernel_rfl) rfl (QO.loadB ty26 (by rfl) (by repeat (first | exact List.Mem.head _ | refine List.Mem.tail _ ?_)) (by rfl)) ?_) | (refine RT.takeOn (i := 3) (dj := 99) rfl rfl (congrArg Value.bool rfl) (by kernel_rfl) rfl (QO.loadA ty26 (by rfl) (by repeat (first | exact List.Mem.head _ | refine List.Mem.tail _ ?_)) (by rfl) (by rfl)) ?_) | (refine RT.takeOn (i := 3) (dj := 99) rfl rfl (congrArg Value.bool rfl) (by kernel_rfl) rfl (QO.loadOA ty26 (by rfl) (by assumption) (by rfl)) ?_)
            first | (refine RT.takeOn (i := 4) (dj := 99) rfl rfl (congrArg Value.bool rfl) (by kernel_rfl) rfl (QO.loadB ty26 (by rfl) (by repeat (first | exact List.Mem.head _ | refine List.Mem.tail _ ?_)) (by rfl)) ?_) | (refine RT.takeOn (i := 4) (dj := 99) rfl rfl (congrArg Value.bool rfl) (by kernel_rfl) rfl (QO.loadA ty26 (by rfl) (by repeat (first | exact List.Mem.head _ | refine List.Mem.tail _ ?_)) (by rfl) (by rfl)) ?_) | (refine RT.takeOn (i := 4) (dj := 99) rfl rfl (congrArg Value.bool rfl) (by kernel_rfl) rfl (QO.loadOA ty26 (by rfl) (by assumption) (by rfl)) ?_)
            refine RT.one (i := 5) (by kernel_rfl) rfl rfl ?_
            refine RS.on (dj := 99) rfl (congrArg Value.bool rfl) ?_
            refine RS.call rfl (by rfl) ok13 (by rfl) (fun w ho => rclean Xf Yf a b _ _ _ ys _ rfl (FS.blk' ho (by repeat (first | exact List.Mem.head _ | refine List.Mem.tail _ ?_))) hys (Nat.le_refl _) (by omega) (by omega) (by omega) (by omega)) ?_
            intro v102 H102 h102
            obtain ⟨gm, cm, jm, rfl, rfl, hcm1, hcm2⟩ := h102
            refine RS.nil ⟨(by repeat (first | exact List.Sublist.refl _ | exact List.nil_sublist _ | refine List.Sublist.cons_cons _ ?_ | refine List.Sublist.cons _ ?_ | exact Sbp.refl | exact Sbp.nil | refine Sbp.cons (by repeat (first | exact Rem.head | apply Rem.tail)) ?_ | exact Sbp.app | refine Sbp.skip ?_ | exact List.sublist_append_left _ _ | exact List.sublist_append_right _ _)), ?_⟩
            refine RT.one (i := 6) (by kernel_rfl) rfl rfl ?_
            refine RS.on (dj := 99) rfl (congrArg Value.bool rfl) ?_
            refine RS.call rfl (by rfl) ok12 (by rfl) (fun w ho => sameTrue Xf Yf a b _ _ _ _ _ _ (ys.map cl) _ rfl rfl (FS.blk ho (by repeat (first | exact List.Mem.head _ | refine List.Mem.tail _ ?_))) (FS.blk ho (by repeat (first | exact List.Mem.head _ | refine List.Mem.tail _ ?_))) (by rw [List.length_map]; unfold maxLen; omega)) ?_
            rintro _ _ ⟨rfl, rfl⟩
            refine RS.nil ⟨(by repeat (first | exact List.Sublist.refl _ | exact List.nil_sublist _ | refine List.Sublist.cons_cons _ ?_ | refine List.Sublist.cons _ ?_ | exact Sbp.refl | exact Sbp.nil | refine Sbp.cons (by repeat (first | exact Rem.head | apply Rem.tail)) ?_ | exact Sbp.app | refine Sbp.skip ?_ | exact List.sublist_append_left _ _ | exact List.sublist_append_right _ _)), ?_⟩
            refine RT.takeOn (i := 7) (dj := 99) rfl rfl (congrArg Value.bool rfl) (by kernel_rfl) rfl (QO.not (by rfl)) ?_
            refine RT.take (i := 8) rfl (by kernel_rfl) rfl (QO.pickF (by rfl) rfl (by rfl)) ?_
            refine RT.done (by kernel_rfl) ?_
            refine thenC_n ?_
            refine CS.condF (by rfl) rfl ?_
            refine CS.skip ?_
            refine thenC_n ?_
            refine CS.seq ?_
            refine CS.drawS (HS := [⟨g5, 26, [iv Xf, iv Yf, iv (a : Int), iv (b : Int), .slice (some ⟨gf, 0, none⟩) ys.length ys.length]⟩]) 9 (by repeat (first | exact List.Sublist.refl _ | exact List.nil_sublist _ | refine List.Sublist.cons_cons _ ?_ | refine List.Sublist.cons _ ?_ | exact Sbp.refl | exact Sbp.nil | refine Sbp.cons (by repeat (first | exact Rem.head | apply Rem.tail)) ?_ | exact Sbp.app | refine Sbp.skip ?_ | exact List.sublist_append_left _ _ | exact List.sublist_append_right _ _)) rfl (by kernel_rfl) (by kernel_rfl) ?_
            refine RT.take (i := 0) rfl (by kernel_rfl) rfl (QO.fieldAddr fo26_0 (by rfl)) ?_
            first | (refine RT.take (i := 1) rfl (by kernel_rfl) rfl (QO.loadB ty23 (by rfl) (by repeat (first | exact List.Mem.head _ | refine List.Mem.tail _ ?_)) (by rfl)) ?_) | (refine RT.take (i := 1) rfl (by kernel_rfl) rfl (QO.loadA ty23 (by rfl) (by repeat (first | exact List.Mem.head _ | refine List.Mem.tail _ ?_)) (by rfl) (by rfl)) ?_) | (refine RT.take (i := 1) rfl (by kernel_rfl) rfl (QO.loadOA ty23 (by rfl) (by assumption) (by rfl)) ?_)
            refine RT.take (i := 2) rfl (by kernel_rfl) rfl (QO.move) ?_
            refine RT.take (i := 3) rfl (by kernel_rfl) rfl (QO.cutLo Try.underlying27 ty26 (by rfl) (by rfl) (by omega) (by omega)) ?_
            refine RT.one (i := 4) (by kernel_rfl) rfl rfl ?_
            refine RS.call rfl (by rfl) ok6 (by rfl) (fun w ho => joinN Xf Yf a b _ (qs.length - 1) _ tl _ htl (fun h9 => (FsL.mk (o := 0 + 1 * 5) ho (by repeat (first | exact List.Mem.head _ | refine List.Mem.tail _ ?_)) (fun i f hf j v hj => by
    have := frC_at (ps := qs) (i := i + 1) (by rw [hqt]; exact hf) hj jq
    rw [show 0 + 1 * 5 + i * 5 + j = (i + 1) * 5 + j by omega]; exact this) (fun p hp => ((hpd p (hqp p (by rw [hqt]; exact List.mem_cons_of_mem _ hp))).2).sub (fun q hq => by simp only [List.mem_cons, List.mem_append, hq, or_true, true_or]))) h9 |> (fun h8 => by rw [cutAt_lt (by have := h9; omega)]; exact h8)) (by unfold maxLen; omega)) ?_
            intro v111 H111 h111
            rw [hl10] at h111
            have k111 := FrR.bad0 h111 (by decide)
            clear h111
            obtain ⟨rfl, rfl⟩ := k111
            refine RS.nil ⟨(by repeat (first | exact List.Sublist.refl _ | exact List.nil_sublist _ | refine List.Sublist.cons_cons _ ?_ | refine List.Sublist.cons _ ?_ | exact Sbp.refl | exact Sbp.nil | refine Sbp.cons (by repeat (first | exact Rem.head | apply Rem.tail)) ?_ | exact Sbp.app | refine Sbp.skip ?_ | exact List.sublist_append_left _ _ | exact List.sublist_append_right _ _)), ?_⟩
            refine RT.take (i := 5) rfl (by kernel_rfl) rfl (QO.move) ?_
            refine RT.take (i := 6) rfl (by kernel_rfl) rfl (QO.extract (by rfl) (by rfl)) ?_
            refine RT.take (i := 7) rfl (by kernel_rfl) rfl (QO.extract (by rfl) (by rfl)) ?_
            refine RT.take (i := 8) rfl (by kernel_rfl) rfl (QO.assign) ?_
            refine RT.done (by kernel_rfl) ?_
            refine thenC_n ?_
            refine CS.seq ?_
            refine CS.region ?_
            refine RS.q rfl (QO.move) ?_
            refine RS.q rfl (QO.eql (by rfl) (by rfl)) ?_
            refine RS.q rfl (QO.assign) ?_
            refine RS.nil ?_
            refine thenC_n ?_
            refine CS.ret ?_
            refine retQ.mk (H' := []) (.inr rfl) (RVs.tmp (by rfl) RVs.nil) (List.nil_sublist _) ?_
            exact ⟨rfl, rfl⟩

end Go.Proofs.Ytdfbeigjinhgiaa

namespace Go.Proofs.Ytdfbeigjinhgiaa
open Go Go.ChangeShapes Go.WideShapes Go.RowKit

section
variable {H : Type} {enc : TypeId × Value → H} {P : Program} {w : World} {base : Nat} {spare : Nat → Bool} {held : Bool}
theorem All2.get {α β : Type} {R : α → β → Prop} : ∀ {a : List α} {b : List β} (_ : All2 R a b) (i : Nat) (x : α) (y : β), a[i]? = some x → b[i]? = some y → R x y
  | [], [], _, i, x, y, h, _ => by simp at h
  | a :: l, b :: m, h, 0, x, y, h1, h2 => by
    simp at h1 h2
    subst h1 h2
    exact h.1
  | a :: l, b :: m, h, i + 1, x, y, h1, h2 => All2.get h.2 i x y (by simpa using h1) (by simpa using h2)
/-- A slice whose elements are rows of leaves. -/
theorem Leaf.sliceN {l e : TypeId} {c : Value} {ls : List TypeId} {d : Nat} (ht : P.underlying l = some (.slice e)) (hl : leaves P d e = some ls) (hc : P.cellsOf e = ls.length) (h : Leaf enc P w base spare held l c) :
    ∃ (A : Option Addr) (n cap : Nat) (C : Nat → List Value), c = .slice A n cap ∧ n ≤ cap ∧ cap ≤ maxLen ∧ ∀ i, i < n → ∃ a, A = some a ∧ All2 (Leaf enc P w base spare held) ls (C i) ∧ ∀ j v, (C i)[j]? = some v → w.cell? (a.add (i * ls.length + j)) = some v := by
  obtain ⟨fuel, x, hx⟩ := h
  rcases Go.Deep.open_slice ht hx with ⟨h1, _⟩ | ⟨a, len, cap, m, n, D, Pl, h1, _, h2, h3, h4, _, h5⟩
  · exact ⟨none, 0, 0, fun _ => [], by simpa using h1, Nat.le_refl _, by simp, fun i hi => by omega⟩
  · obtain ⟨C, hC⟩ := Go.Deep.choose_lt (α := List Value) (n := len) (p := fun i cs => w.cells? base (a.add (i * P.cellsOf e)) (P.cellsOf e) = some cs ∧ DataW.trod enc P w base spare held n e cs = some (D i, Pl i)) (fun i hi => h5 i (by rw [h4]; split <;> omega))
    refine ⟨some a, len, cap, C, by simpa using h1, h2, h3, fun i hi => ⟨a, rfl, ?_, fun j v hj => ?_⟩⟩
    · exact leaves_trod d hl (hC i hi).2
    · obtain ⟨_, h6, h7⟩ := World.cells?_some (hC i hi).1
      have h8 : j < (C i).length := (List.getElem?_eq_some_iff.1 hj).1
      have h9 := h7 j (by omega)
      rw [hc] at h9
      rw [Addr.add_add] at h9
      rw [h9, hj]
/-- .. of floats: the numbers of all of them, one after the other. -/
theorem Leaf.floatsN {l e t : TypeId} {c : Value} {ls : List TypeId} {d k : Nat} (ht : P.underlying l = some (.slice e)) (hl : leaves P d e = some ls) (hc : P.cellsOf e = ls.length) (hk : ls = List.replicate k t) (h0 : 0 < k) (he : P.underlying t = some (.float .f32)) (h : Leaf enc P w base spare held l c) :
    ∃ (A : Option Addr) (n cap : Nat) (xs : List Nat), c = .slice A n cap ∧ n ≤ cap ∧ cap ≤ maxLen ∧ xs.length = k * n ∧ FS w A xs := by
  obtain ⟨A, n, cap, C, rfl, h1, h2, hC⟩ := h.sliceN ht hl hc
  subst hk
  have key : ∀ i, i < k * n → ∃ b : Nat, ∃ a, A = some a ∧ w.cell? (a.add i) = some (flt b) := fun i hi => by
    have hik : i / k < n := by rw [Nat.div_lt_iff_lt_mul h0, Nat.mul_comm]; exact hi
    obtain ⟨a, h3, h4, h5⟩ := hC (i / k) hik
    have h6 := h4.len
    simp only [List.length_replicate] at h6
    have h7 : i % k < (C (i / k)).length := by rw [← h6]; exact Nat.mod_lt _ h0
    obtain ⟨b, h8, _⟩ := (h4.get (i % k) t ((C (i / k))[i % k]) (by rw [List.getElem?_replicate, if_pos (Nat.mod_lt _ h0)]) (List.getElem?_eq_getElem h7)).float he
    have h9 := h5 (i % k) _ (List.getElem?_eq_getElem h7)
    rw [List.length_replicate, Nat.div_add_mod'] at h9
    exact ⟨b, a, h3, by rw [h9, h8]⟩
  obtain ⟨F, hF⟩ := Go.Deep.choose_lt (α := Nat) (n := k * n) (p := fun i b => ∃ a, A = some a ∧ w.cell? (a.add i) = some (flt b)) key
  refine ⟨A, n, cap, (List.range (k * n)).map F, rfl, h1, h2, by simp, fun hp => ?_⟩
  simp at hp
  obtain ⟨⟨b, o, sp⟩, rfl, h3⟩ := hF 0 (by simpa using hp)
  have hsp : sp = none := by simpa [Addr.add] using World.cell?_spot h3
  subst hsp
  refine ⟨b, o, rfl, fun i x hi => ?_⟩
  have hl : i < k * n := by simpa using (List.getElem?_eq_some_iff.1 hi).1
  obtain ⟨a, h4, h5⟩ := hF i hl
  cases h4
  rw [List.getElem?_map, List.getElem?_range hl] at hi
  cases hi
  rw [addr_add] at h5
  exact h5
end
end Go.Proofs.Ytdfbeigjinhgiaa

namespace Go.Proofs.Ytdfbeigjinhgiaa
open Go Go.ChangeShapes Go.WideShapes Go.RowKit

instance instInhFrS : Inhabited FrS := ⟨⟨0, 0, 0, 0, 0, 0, none, []⟩⟩
section
variable {H : Type} {enc : TypeId × Value → H} {P : Program} {w : World} {base : Nat} {spare : Nat → Bool} {held : Bool}
theorem Leaf.framesF {l e te tv tf : TypeId} {c : Value} {d d2 : Nat} (ht : P.underlying l = some (.slice e)) (hl : leaves P d e = some [te, te, te, te, tv]) (hc : P.cellsOf e = 5) (h1 : P.underlying te = some (.int .i64))
    (h2 : P.underlying tv = some (.slice tf)) (h3 : leaves P d2 tf = some [tf]) (h4 : P.cellsOf tf = 1) (h5 : P.underlying tf = some (.float .f32)) (h : Leaf enc P w base spare held l c) :
    ∃ (A : Option Addr) (cap : Nat) (fs : List FrS), c = .slice A fs.length cap ∧ fs.length ≤ cap ∧ cap ≤ maxLen ∧ FsL w A fs ∧ ∀ f ∈ fs, -9223372036854775808 ≤ f.x ∧ f.x ≤ 9223372036854775807 := by
  obtain ⟨A, n, cap, C, rfl, k1, k2, hC⟩ := h.sliceN ht hl hc
  have key : ∀ i, i < n → ∃ f : FrS, ((-9223372036854775808 ≤ f.x ∧ f.x ≤ 9223372036854775807) ∧ FS w f.A f.zs ∧ f.zs.length = f.n ∧ f.n ≤ f.c ∧ f.c ≤ maxLen) ∧ ∃ a, A = some a ∧ ∀ j v, f.cells[j]? = some v → w.cell? (a.add (i * 5 + j)) = some v := fun i hi => by
    obtain ⟨a, q1, q2, q3⟩ := hC i hi
    obtain ⟨c0, r0, e0, l0, a0⟩ := q2.cons_inv
    obtain ⟨c1, r1, rfl, l1, a1⟩ := a0.cons_inv
    obtain ⟨c2, r2, rfl, l2, a2⟩ := a1.cons_inv
    obtain ⟨c3, r3, rfl, l3, a3⟩ := a2.cons_inv
    obtain ⟨c4, r4, rfl, l4, a4⟩ := a3.cons_inv
    obtain rfl := a4.nil_inv
    obtain ⟨x0, rfl, w0⟩ := l0.int h1
    obtain ⟨x1, rfl, _⟩ := l1.int h1
    obtain ⟨x2, rfl, _⟩ := l2.int h1
    obtain ⟨x3, rfl, _⟩ := l3.int h1
    obtain ⟨Ap, np, cp, xs, rfl, hp1, hp2, hp3, hp4⟩ := l4.floatsN (k := 1) h2 h3 h4 rfl (by decide) h5
    exact ⟨⟨x0, x1, x2, x3, np, cp, Ap, xs⟩, ⟨bounds_i64 w0, hp4, by simpa using hp3, hp1, hp2⟩, a, q1, fun j v hj => q3 j v (by rw [e0]; exact hj)⟩
  obtain ⟨F, hF⟩ := Go.Deep.choose_lt (α := FrS) (n := n) (p := fun i f => ((-9223372036854775808 ≤ f.x ∧ f.x ≤ 9223372036854775807) ∧ FS w f.A f.zs ∧ f.zs.length = f.n ∧ f.n ≤ f.c ∧ f.c ≤ maxLen) ∧ ∃ a, A = some a ∧ ∀ j v, f.cells[j]? = some v → w.cell? (a.add (i * 5 + j)) = some v) key
  have hlen : ((List.range n).map F).length = n := by simp
  refine ⟨A, cap, (List.range n).map F, by rw [hlen], by rw [hlen]; exact k1, k2, fun hp => ?_, fun f hf => ?_⟩
  · simp at hp
    obtain ⟨_, ⟨b, o, sp⟩, rfl, q⟩ := hF 0 hp
    have q0 := q 0 (iv (F 0).x) rfl
    have hsp : sp = none := by simpa [Addr.add] using World.cell?_spot q0
    subst hsp
    refine ⟨b, o, rfl, fun i f hi => ?_⟩
    have hl : i < n := by simpa using (List.getElem?_eq_some_iff.1 hi).1
    rw [List.getElem?_map, List.getElem?_range hl] at hi
    cases hi
    obtain ⟨hw, a, q1, q2⟩ := hF i hl
    cases q1
    refine ⟨fun j v hj => ?_, hw.2⟩
    have q3 := q2 j v hj
    rw [addr_add] at q3 ⊢
    rw [Nat.add_assoc]
    exact q3
  · obtain ⟨i, hi, rfl⟩ := List.mem_map.1 hf
    exact (hF i (List.mem_range.1 hi)).1.1
end
end Go.Proofs.Ytdfbeigjinhgiaa

namespace Go.Proofs.Ytdfbeigjinhgiaa
open Go Go.ChangeShapes Go.WideShapes Go.ChangeAt Go.RowKit
open Go.ChangeMaps (open_string shut_string)

theorem framesJoin_own : ownKnob Try.prog.godebug = none := by kernel_rfl
theorem framesJoin_laidOut : laidOutB Try.prog = true := by kernel_rfl
theorem framesJoin_lv26 : leaves Try.prog 9 26 = some [3, 3, 3, 3, 24] := by kernel_rfl
theorem framesJoin_lv23 : leaves Try.prog 9 23 = some [3, 3, 3, 3] := by kernel_rfl
theorem framesJoin_co43 : Try.prog.cellsOf 43 = 1 := by kernel_rfl
theorem framesJoin_co26 : Try.prog.cellsOf 26 = 5 := by kernel_rfl
theorem framesJoin_lv43 : leaves Try.prog 9 43 = some [43] := by kernel_rfl

set_option maxHeartbeats 4000000 in
set_option maxRecDepth 100000 in
theorem framesJoin_lifted (os : Os) (started : os.Started) (H : Type) (enc : TypeId × Value → H) :
    ReturnsInHanded {} Try.checked os 3 .any (Rows.framesJoinSpec.pre6 enc Try.prog Try.f3 Rows.framesJoinRow.domain false) (Rows.framesJoinSpec.post enc Try.prog Try.f3 false true false false) := by
  refine returnsInHanded_of_change (C := Try.checked) framesJoin_own started (by kernel_rfl) Try.func3
    (ChangeSpec.witness6 (enc := enc) (C := Try.checked) false ⟨#[], #[.agg #[.int .i64 0, .int .i64 0, .int .i64 0, .int .i64 0, .slice none 0 0], .int .i64 0, .int .i64 0, .slice none 0 0, .agg #[.int .i64 0, .int .i64 0, .int .i64 0, .int .i64 0]], []⟩ 8 (by kernel_rfl) (by kernel_rfl) (by kernel_rfl) (by kernel_rfl)) ?_
  intro W base args ds gs before hval0 hW hcnd _
  have hval : ∀ (j : Nat) t v, Try.f3.params[j]? = some t → args[j]? = some v → Value.okWide Try.prog W .any base t v := hval0
  have hW' := hW
  obtain ⟨p, q, hA0, hV, rfl, hfz, hnd⟩ := hW
  have hA : DataW.TrodAll enc Try.prog W 0 (fun _ => true) true Try.f3.params.toList args.toList ds p := hA0
  rw [Try.params3] at hA hval
  obtain ⟨v0, vs0, d0, ds0, p0, q0, hargs, rfl, rfl, h0, r0⟩ := trodAll_cons hA
  obtain ⟨v1, vs1, d1, ds1, p1, q1, rfl, rfl, rfl, h1, r1⟩ := trodAll_cons r0
  obtain ⟨v2, vs2, d2, ds2, p2, q2, rfl, rfl, rfl, h2, r2⟩ := trodAll_cons r1
  obtain ⟨v3, vs3, d3, ds3, p3, q3, rfl, rfl, rfl, h3, r3⟩ := trodAll_cons r2
  obtain ⟨v4, vs4, d4, ds4, p4, q4, rfl, rfl, rfl, h4, r4⟩ := trodAll_cons r3
  obtain ⟨rfl, rfl, rfl⟩ := trodAll_nil r4
  obtain rfl : args = #[v0, v1, v2, v3, v4] := by cases args; simp_all
  obtain ⟨rfl, rfl⟩ := trodVars_none hV
  have k0 := h0
  have lt0 : ∀ x ∈ p0, x.block < W.heap.size := by obtain ⟨m, hm⟩ := k0; exact DataW.trod_lt m _ _ _ hm
  have k1 := h1
  have lt1 : ∀ x ∈ p1, x.block < W.heap.size := by obtain ⟨m, hm⟩ := k1; exact DataW.trod_lt m _ _ _ hm
  have k2 := h2
  have lt2 : ∀ x ∈ p2, x.block < W.heap.size := by obtain ⟨m, hm⟩ := k2; exact DataW.trod_lt m _ _ _ hm
  have k3 := h3
  have lt3 : ∀ x ∈ p3, x.block < W.heap.size := by obtain ⟨m, hm⟩ := k3; exact DataW.trod_lt m _ _ _ hm
  have k4 := h4
  have lt4 : ∀ x ∈ p4, x.block < W.heap.size := by obtain ⟨m, hm⟩ := k4; exact DataW.trod_lt m _ _ _ hm
  obtain ⟨cs0, rfl, a0⟩ := open_agg Try.underlying26 framesJoin_lv26 (hval 0 26 v0 rfl rfl) h0
  obtain ⟨c0_0, cs0_0, rfl, l0_0, a0_0⟩ := a0.cons_inv
  obtain ⟨c0_1, cs0_1, rfl, l0_1, a0_1⟩ := a0_0.cons_inv
  obtain ⟨c0_2, cs0_2, rfl, l0_2, a0_2⟩ := a0_1.cons_inv
  obtain ⟨c0_3, cs0_3, rfl, l0_3, a0_3⟩ := a0_2.cons_inv
  obtain ⟨c0_4, cs0_4, rfl, l0_4, a0_4⟩ := a0_3.cons_inv
  obtain rfl := a0_4.nil_inv
  obtain ⟨x, el0_0, l0_0_w⟩ := l0_0.int Try.underlying3
  cases el0_0
  obtain ⟨y, el0_1, l0_1_w⟩ := l0_1.int Try.underlying3
  cases el0_1
  obtain ⟨wi, el0_2, l0_2_w⟩ := l0_2.int Try.underlying3
  cases el0_2
  obtain ⟨he, el0_3, l0_3_w⟩ := l0_3.int Try.underlying3
  cases el0_3
  obtain ⟨xs_A, xs_n, xs_c, xs, el0_4, xs_m, xs_l, xs_f, xs_b⟩ := l0_4.floats Try.underlying24 Try.underlying43 framesJoin_co43
  cases el0_4
  have hc1 : v1.cells.toList = [v1] := by obtain ⟨_, rfl⟩ := okWide_int Try.underlying3 (hval 1 3 v1 rfl rfl); rfl
  have l1 := leaf_of h1 hc1
  obtain ⟨sd, el1, l1_w⟩ := l1.int Try.underlying3
  cases el1
  have hc2 : v2.cells.toList = [v2] := by obtain ⟨_, rfl⟩ := okWide_int Try.underlying3 (hval 2 3 v2 rfl rfl); rfl
  have l2 := leaf_of h2 hc2
  obtain ⟨tu, el2, l2_w⟩ := l2.int Try.underlying3
  cases el2
  have hc3 : v3.cells.toList = [v3] := by obtain ⟨_, _, _, rfl⟩ := okWide_slice Try.underlying27 (hval 3 27 v3 rfl rfl); rfl
  have l3 := leaf_of h3 hc3
  obtain ⟨fl_A, fl_c, fl, el3, fl_k, fl_m, fl_f, fl_b⟩ := l3.framesF Try.underlying27 framesJoin_lv26 framesJoin_co26 Try.underlying3 Try.underlying24 framesJoin_lv43 framesJoin_co43 Try.underlying43
  cases el3
  obtain ⟨cs4, rfl, a4⟩ := open_agg Try.underlying23 framesJoin_lv23 (hval 4 23 v4 rfl rfl) h4
  obtain ⟨c4_0, cs4_0, rfl, l4_0, a4_0⟩ := a4.cons_inv
  obtain ⟨c4_1, cs4_1, rfl, l4_1, a4_1⟩ := a4_0.cons_inv
  obtain ⟨c4_2, cs4_2, rfl, l4_2, a4_2⟩ := a4_1.cons_inv
  obtain ⟨c4_3, cs4_3, rfl, l4_3, a4_3⟩ := a4_2.cons_inv
  obtain rfl := a4_3.nil_inv
  obtain ⟨rx, el4_0, l4_0_w⟩ := l4_0.int Try.underlying3
  cases el4_0
  obtain ⟨ry, el4_1, l4_1_w⟩ := l4_1.int Try.underlying3
  cases el4_1
  obtain ⟨rw_, el4_2, l4_2_w⟩ := l4_2.int Try.underlying3
  cases el4_2
  obtain ⟨rh, el4_3, l4_3_w⟩ := l4_3.int Try.underlying3
  cases el4_3
  clear hA0 hval0
  refine Calls.mono (framesJoin x y wi he xs_A xs_n xs_c xs sd tu fl_A fl_c fl rx ry rw_ rh W xs_l xs_f xs_m fl_f (Nat.le_trans fl_k fl_m) fl_b (bounds_i64 l4_0_w)) fun e W' hp => ?_
  obtain ⟨v, HL, rfl, own, rfl, rfl⟩ := hp
  have bel := own.below
  exact ⟨_, rfl, _, _, _, [], _, [], hW', trodAll_mk1 (shut_bool Try.underlying4 _), (trodAll_cons_mk (Below.trod framesJoin_laidOut (by kernel_rfl) (of_decide_eq_true (by kernel_rfl)) k0 bel lt0) (trodAll_cons_mk (Below.trod framesJoin_laidOut (by kernel_rfl) (of_decide_eq_true (by kernel_rfl)) k1 bel lt1) (trodAll_cons_mk (Below.trod framesJoin_laidOut (by kernel_rfl) (of_decide_eq_true (by kernel_rfl)) k2 bel lt2) (trodAll_cons_mk (Below.trod framesJoin_laidOut (by kernel_rfl) (of_decide_eq_true (by kernel_rfl)) k3 bel lt3) (trodAll_cons_mk (Below.trod framesJoin_laidOut (by kernel_rfl) (of_decide_eq_true (by kernel_rfl)) k4 bel lt4) trodAll_mk0))))), rfl, bel.frame _, fun h => by cases h⟩

theorem framesJoin_over : Rows.framesJoinRow.holds Try.pinned (OpenSpec.ofChange Rows.framesJoinSpec) :=
  OpenClaim.holds_of_wide 3 Try.f3 rfl rfl rfl rfl rfl rfl rfl ⟨rfl, rfl, rfl, rfl, rfl⟩ rfl rfl rfl rfl rfl (by kernel_rfl) Try.func3 (by kernel_rfl)
    (of_decide_eq_true (by kernel_rfl)) (by unfold Func.isWrapper; first | (rw [if_pos (by decide +kernel)]; kernel_rfl) | (rw [if_neg (by decide +kernel)]; exact ⟨rfl, rfl⟩))
    (fun os started H enc _ => framesJoin_lifted os started H enc)

/-- THE STATEMENT. -/
theorem join_holds : Rows.FramesJoinSaid := framesJoin_over
#print axioms join_holds
end Go.Proofs.Ytdfbeigjinhgiaa
