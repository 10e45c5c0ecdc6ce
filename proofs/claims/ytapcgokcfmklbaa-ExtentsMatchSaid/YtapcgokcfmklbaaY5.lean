/-
  The law ExtentsMatch of the given rows: at every input the call returns true and leaves its arguments as they were. Conditions: none.
-/
import Derived.Test.YtapcgokcfmklbaaY4
import Derived.Test.YtapcgokcfmklbaaRows
import Derived.WalkKit
import Derived.ProofKit
import Derived.OpenShut
import Derived.ShutString
import Derived.ChangeOld
import Derived.Below
namespace Go.Proofs.Ytapcgokcfmklbaa
open Go Go.Proofs Go.RowKit

theorem ok65 : callOK Try.prog 65 = true := by kernel_rfl
theorem ok67 : callOK Try.prog 67 = true := by kernel_rfl
theorem ok78 : callOK Try.prog 78 = true := by kernel_rfl

section
variable {P : Program} {W : World} {H : HL} {e : Env} {x y : Operand} {t t' ty : TypeId}
theorem QO.quo64 {i j r : Nat} (hx : ev e x = .float .f64 i) (hy : ev e y = .float .f64 j) (h : Ieee.double.div i j = some r) : QO P W H e (.binOp .quo t x y t') ty (.float .f64 r) := by
  refine QO.bin hx hy (fun w => ?_)
  have h1 : (eqGuard .quo t x y (.float .f64 i) (.float .f64 j)).run P w = .ok () w := by simp [eqGuard]
  simp only [Sem.run_bind, h1, Result.andThen_ok]
  simp [binOp, Op.floatArith, FloatKind.format, h]
end
/-- a mean by way of 64 bits is the mean -/
def MeanOK (s n : Nat) : Prop := nan32 s = true ∨ dvD s (cvF (n : Int)) = some (fo .quo s (cvF (n : Int)))
theorem fo_nan {s y : Nat} (h : nan32 s = true) : fo .quo s y = 2143289344 := by
  obtain ⟨a, f, e⟩ := read_nan h
  have hn : fop .quo s y = none := by
    show Ieee.single.div s y = none
    unfold Ieee.Format.div
    rw [e]; rfl
  unfold fo
  rw [hn]
  exact cl_nan (by decide)
theorem cv_64 : ∀ n : Nat, n < 65 → 0 < n → (floatToFloatBits .f32 (cvF (n : Int)) .f64).isSome = true := by decide +kernel
theorem ends_ok {m : Nat} {d d2 : Nat → Nat} (hm : 0 < m) (h : Mv m 0 m d d2) (s : So exL 0 m d2) :
    (∃ i, i < m ∧ d2 0 = d i) ∧ (∃ j, j < m ∧ d2 (m - 1) = d j) ∧ (∀ q, q < m → exL (d q) (d2 0) = false) ∧ ∀ q, q < m → exL (d2 (m - 1)) (d q) = false := by
  obtain ⟨i, _, h2, h3⟩ := h.2.1 0 (Nat.le_refl _) hm
  obtain ⟨j, _, h5, h6⟩ := h.2.1 (m - 1) (Nat.zero_le _) (by omega)
  refine ⟨⟨i, h2, h3⟩, ⟨j, h5, h6⟩, fun q hq => ?_, fun q hq => ?_⟩
  · obtain ⟨k, k1, k2⟩ := perm_mem h.2.2 hq
    rw [← k2]
    by_cases e : k = 0
    · rw [e]; exact exO.refl _
    · exact s 0 k (Nat.le_refl _) (by omega) k1
  · obtain ⟨k, k1, k2⟩ := perm_mem h.2.2 hq
    rw [← k2]
    by_cases e : k = m - 1
    · rw [e]; exact exO.refl _
    · exact s k (m - 1) (Nat.zero_le _) (by omega) (by omega)

set_option maxRecDepth 100000 in
theorem rdivS (a b x y z s : Nat) (W : World) (h1 : floatToFloatBits .f32 a .f64 = some x) (h2 : floatToFloatBits .f32 b .f64 = some y) (h3 : Ieee.double.div x y = some z) (h4 : floatToFloatBits .f64 z .f32 = some s) : Fn_ Try.prog 78 #[flt a, flt b] W (fun v H => v = flt s ∧ H = []) := by
  refine Fn_.intro Try.func78 rfl rfl (by rfl) ?_
  refine CS.seq ?_
  refine CS.region ?_
  refine RS.q rfl (QO.assign) ?_
  refine RS.nil ?_
  refine thenC_n ?_
  refine CS.seq ?_
  refine CS.region ?_
  refine RS.q rfl (QO.move) ?_
  refine RS.q rfl (QO.conv_ff (s := .f32) (k := .f64) (by rw [Try.underlying29]; rfl) Try.underlying181 (by rfl) h1) ?_
  refine RS.q rfl (QO.move) ?_
  refine RS.q rfl (QO.conv_ff (s := .f32) (k := .f64) (by rw [Try.underlying29]; rfl) Try.underlying181 (by rfl) h2) ?_
  refine RS.q rfl (QO.quo64 (by rfl) (by rfl) h3) ?_
  refine RS.q rfl (QO.conv_ff (s := .f64) (k := .f32) (by rw [Try.underlying181]; rfl) Try.underlying29 (by rfl) h4) ?_
  refine RS.q rfl (QO.assign) ?_
  refine RS.nil ?_
  refine thenC_n ?_
  refine CS.ret ?_
  refine retQ.mk (H' := []) (.inr rfl) (RVs.tmp (by rfl) RVs.nil) (List.nil_sublist _) ?_
  exact ⟨rfl, rfl⟩

set_option maxRecDepth 100000 in
theorem rdivN (a b y : Nat) (W : World) (h1 : nan32 a = true) (h2 : floatToFloatBits .f32 b .f64 = some y) : Fn_ Try.prog 78 #[flt a, flt b] W (fun v H => ∃ r, v = flt r ∧ nan32 r = true ∧ H = []) := by
  refine Fn_.intro Try.func78 rfl rfl (by rfl) ?_
  refine CS.seq ?_
  refine CS.region ?_
  refine RS.q rfl (QO.assign) ?_
  refine RS.nil ?_
  refine thenC_n ?_
  refine CS.seq ?_
  refine CS.region ?_
  refine RS.q rfl (QO.move) ?_
  refine RS.convN64 rfl Try.underlying29 Try.underlying181 (by rfl) h1 ?_
  intro r6 hr6
  refine RS.q rfl (QO.move) ?_
  refine RS.q rfl (QO.conv_ff (s := .f32) (k := .f64) (by rw [Try.underlying29]; rfl) Try.underlying181 (by rfl) h2) ?_
  refine RS.quoN64 rfl (by rfl) (by rfl) hr6 ?_
  intro r9 hr9
  refine RS.convN32 rfl Try.underlying181 Try.underlying29 (by rfl) hr9 ?_
  intro r10 hr10
  refine RS.q rfl (QO.assign) ?_
  refine RS.nil ?_
  refine thenC_n ?_
  refine CS.ret ?_
  refine retQ.mk (H' := []) (.inr rfl) (RVs.tmp (by rfl) RVs.nil) (List.nil_sublist _) ?_
  exact ⟨r10, rfl, hr10, rfl⟩

theorem rdiv_ (s n : Nat) (W : World) (h : MeanOK s n) (hn : n < 65) (h0 : 0 < n) : Fn_ Try.prog 78 #[flt s, flt (cvF (n : Int))] W (fun v H => ∃ r, v = flt r ∧ cl r = fo .quo s (cvF (n : Int)) ∧ H = []) := by
  rcases h with h | h
  · obtain ⟨y, hy⟩ := Option.isSome_iff_exists.1 (cv_64 n hn h0)
    refine (rdivN s _ y W h hy).mono fun v H hv => ?_
    obtain ⟨r, h1, h2, h3⟩ := hv
    exact ⟨r, h1, by rw [cl_nan h2, fo_nan h], h3⟩
  · obtain ⟨X, Y, Z, h1, h2, h3, h4⟩ := dvD_ex h
    refine (rdivS s _ X Y Z _ W h1 h2 h3 h4).mono fun v H hv => ?_
    exact ⟨_, hv.1, cl_fo _ _ _, hv.2⟩

set_option maxRecDepth 100000 in
theorem rmean (A : Option Addr) (n c : Nat) (ks : List Nat) (W : World) (hn : ks.length = n) (hc : n ≤ c) (hx : c ≤ maxLen) (hA : FS W A ks) (h1 : 0 < n) (h2 : n < 65) (hM : MeanOK (Go.Proofs.Ytapcgokcfmklbaa.sum ks) n) : Fn_ Try.prog 67 #[.slice A n c] W (fun v H => v = flt (fo .quo (Go.Proofs.Ytapcgokcfmklbaa.sum ks) (cvF (n : Int))) ∧ H = []) := by
  refine Fn_.intro Try.func67 rfl rfl (by rfl) ?_
  refine CS.seq ?_
  refine CS.region ?_
  refine RS.q rfl (QO.assign) ?_
  refine RS.nil ?_
  refine thenC_n ?_
  refine CS.seq ?_
  refine CS.region ?_
  refine RS.q rfl (QO.move) ?_
  refine RS.call rfl (by rfl) ok120 (by rfl) (fun w ho => sumOf' ks A n c _ hn hc hx (hA.own ho)) ?_
  rintro _ _ ⟨rfl, rfl⟩
  refine RS.q rfl (QO.move) ?_
  refine RS.q rfl (QO.lenS Try.underlying24 (by rfl)) ?_
  refine RS.call rfl (by rfl) ok79 (by rfl) (fun w ho => conv_ (n : Int) _) ?_
  rintro _ _ ⟨rfl, rfl⟩
  refine RS.call rfl (by rfl) ok78 (by rfl) (fun w ho => rdiv_ (Go.Proofs.Ytapcgokcfmklbaa.sum ks) n _ hM h2 h1) ?_
  rintro _ _ ⟨r8, rfl, hr8, rfl⟩
  refine RS.call rfl (by rfl) ok82 (by rfl) (fun w ho => fix r8 _) ?_
  rintro _ _ ⟨rfl, rfl⟩
  refine RS.q rfl (QO.assign) ?_
  refine RS.nil ?_
  refine thenC_n ?_
  refine CS.ret ?_
  refine retQ.mk (H' := []) (.inr rfl) (RVs.tmp (by rfl) RVs.nil) (List.nil_sublist _) ?_
  exact ⟨congrArg flt hr8, rfl⟩

set_option maxHeartbeats 4000000 in
set_option maxRecDepth 100000 in
theorem rExtent (X Y : Int) (a b : Nat) (A : Option Addr) (n c : Nat) (xs : List Nat) (ch : Int) (W : World) (hn : xs.length = n) (hA : FS W A xs) (hfr : frErr X Y (a : Int) (b : Int) n = 0) (hN : n = 4 * (a * b)) (hc : n ≤ c) (hcm : c ≤ maxLen) (ha : 1 ≤ a ∧ a ≤ 256) (hb : 1 ≤ b ∧ b ≤ 256) (h32 : ∀ x ∈ xs, x < 4294967296) (h0 : 0 ≤ ch) (h4 : ch ≤ 4) (hab : a * b < 65) (hM : 0 < (kp xs ch (a * b)).length → MeanOK (Go.Proofs.Ytapcgokcfmklbaa.sum (kp xs ch (a * b))) (kp xs ch (a * b)).length) : Fn_ Try.prog 21 #[.agg #[iv X, iv Y, iv (a : Int), iv (b : Int), .slice A n c], iv ch] W (fun v H => ∃ L G M, v = .agg #[flt L, flt G, flt M, iv ((a * b - (kp xs ch (a * b)).length : Nat) : Int)] ∧ ExT (kp xs ch (a * b)) L G M ∧ H = []) := by
  have hpos := Nat.mul_le_mul ha.1 hb.1
  have hup := Nat.mul_le_mul ha.2 hb.2
  have hkl := kp_len xs ch (a * b)
  refine Fn_.intro Try.func21 rfl rfl (by rfl) ?_
  refine CS.seq ?_
  refine CS.region ?_
  refine RS.box rfl (by rfl) (by rfl) ?_
  intro g2
  refine RS.alloc rfl ty44 ?_
  intro g4
  refine RS.nil ?_
  refine thenC_n ?_
  refine CS.seq ?_
  refine CS.region ?_
  first | (refine RS.q rfl (QO.loadB ty26 (by rfl) (by repeat (first | exact List.Mem.head _ | refine List.Mem.tail _ ?_)) (by rfl)) ?_) | (refine RS.q rfl (QO.loadA ty26 (by rfl) (by repeat (first | exact List.Mem.head _ | refine List.Mem.tail _ ?_)) (by rfl) (by rfl)) ?_) | (refine RS.q rfl (QO.loadOA ty26 (by rfl) (by assumption) (by rfl)) ?_)
  refine RS.q rfl (QO.move) ?_
  refine RS.call rfl (by rfl) ok64 (by rfl) (fun w ho => rvals X Y a b A n c xs ch _ hn (hA.own ho) hfr hN hc hcm ha hb h0 h4) ?_
  intro v11 H11 h11
  have hx11 := h11.some (by omega)
  obtain ⟨g11, c11, j11, hv11, hH11, hcp11, hcm11, hln11⟩ := hx11
  subst hv11 hH11
  refine RS.q rfl (QO.assign) ?_
  refine RS.nil ?_
  refine thenC_n ?_
  refine CS.seq ?_
  refine CS.region ?_
  refine RS.q rfl (QO.move) ?_
  refine RS.call rfl (by rfl) ok52 (by rfl) (fun w ho => cloneF (some ⟨g11, 0, none⟩) (a * b) c11 (chV xs ch (a * b)) _ (chV_len xs ch (a * b)) (FS.blk ho (by repeat (first | exact List.Mem.head _ | refine List.Mem.tail _ ?_))) (by omega) (by omega) (fun x hx => (chV_ok h32 ch (a * b) x hx).1)) ?_
  rintro _ _ ⟨gc, cp, jk, rfl, rfl, hcp, hcpm⟩
  refine RS.callH (⟨gc, 29, fl (gd (chV xs ch (a * b))) (a * b) jk⟩ :: [⟨g11, 29, (chV xs ch (a * b)).map flt ++ j11⟩, ⟨g4, 44, [flt 0, flt 0, flt 0, iv 0]⟩, ⟨g2, 26, [iv X, iv Y, iv (a : Int), iv (b : Int), .slice A n c]⟩]) rfl (by rfl) ok51 (by rfl) (by repeat (first | exact List.Sublist.refl _ | exact List.nil_sublist _ | refine List.Sublist.cons_cons _ ?_ | refine List.Sublist.cons _ ?_ | exact Sbp.refl | exact Sbp.nil | refine Sbp.cons (by repeat (first | exact Rem.head | apply Rem.tail)) ?_ | exact Sbp.app | refine Sbp.skip ?_ | exact List.sublist_append_left _ _ | exact List.sublist_append_right _ _)) (fun w ho => delF gc (a * b) cp (chV xs ch (a * b)) jk [⟨g11, 29, (chV xs ch (a * b)).map flt ++ j11⟩, ⟨g4, 44, [flt 0, flt 0, flt 0, iv 0]⟩, ⟨g2, 26, [iv X, iv Y, iv (a : Int), iv (b : Int), .slice A n c]⟩] _ (chV_len xs ch (a * b)) (by omega) (by omega) hcp 65 ok65 (fun wd Hd _ x => rext1 x wd)) ?_
  rintro _ _ ⟨jk2, rfl, rfl⟩
  refine RS.q rfl (QO.assign) ?_
  refine RS.nil ?_
  refine thenC_n ?_
  refine CS.seq ?_
  refine CS.region ?_
  refine RS.q rfl (QO.move) ?_
  refine RS.q rfl (QO.lenS Try.underlying24 (by rfl)) ?_
  refine RS.q rfl (QO.move) ?_
  refine RS.qv rfl (QO.lenS Try.underlying24 (by rfl)) (show _ = iv ((kp xs ch (a * b)).length : Int) from rfl) ?_
  first | (refine RS.qv rfl (QO.sub (by rfl) (by rfl) (by omega) (by omega)) (congrArg iv (show ((a * b : Nat) : Int) - ((kp xs ch (a * b)).length : Int) = ((a * b - (kp xs ch (a * b)).length : Nat) : Int) by omega)) ?_) | (refine RS.qv rfl (QO.ibin (by rfl) (by rfl) trivial) (congrArg iv (show ((a * b : Nat) : Int) - ((kp xs ch (a * b)).length : Int) = ((a * b - (kp xs ch (a * b)).length : Nat) : Int) by omega)) ?_)
  refine RS.qv rfl (QO.build ty44 pl44 (by rfl)) (show _ = Value.agg #[flt 0, flt 0, flt 0, iv ((a * b - (kp xs ch (a * b)).length : Nat) : Int)] from rfl) ?_
  refine RS.alloc rfl ty44 ?_
  intro g7
  first | refine RS.storeB ty44 (by rfl) (by rfl) (by rfl) (by rfl) (by rfl) (by repeat (first | exact Upd.head | apply Upd.tail)) (by rfl) ?_ | refine RS.storeP ty44 (by rfl) (by rfl) (by rfl) (by rfl) (by rfl) (by repeat (first | exact Upd.head | apply Upd.tail)) (by rfl) ?_
  refine RS.nil ?_
  refine thenC_n ?_
  refine CS.seq ?_
  refine CS.seq ?_
  refine CS.region ?_
  refine RS.q rfl (QO.move) ?_
  refine RS.qv rfl (QO.lenS Try.underlying24 (by rfl)) (show _ = iv ((kp xs ch (a * b)).length : Int) from rfl) ?_
  refine RS.q rfl (QO.gtr (by rfl) (by rfl)) ?_
  refine RS.nil ?_
  refine thenC_n ?_
  refine CS.cond (by rfl) (fun hb0 => ?_) (fun hb0 => ?_)
  · have hb0p := of_decide_eq_true hb0
    refine CS.seq ?_
    refine CS.region ?_
    refine RS.q rfl (QO.move) ?_
    refine RS.call rfl (by rfl) ok66 (by rfl) (fun w ho => inOrder_ (some ⟨gc, 0, none⟩) (kp xs ch (a * b)).length cp (kp xs ch (a * b)) _ rfl (FS.blk ho (by repeat (first | exact List.Mem.head _ | refine List.Mem.tail _ ?_))) (by omega) (by omega) (fun x hx => (kp_ok h32 ch (a * b) x hx).1)) ?_
    rintro _ _ ⟨go, co, jo, d2, rfl, rfl, m2, s2⟩
    have hends := ends_ok (by omega) m2 s2
    obtain ⟨⟨i0, hi0, hL⟩, ⟨j0, hj0, hG⟩, hmin, hmax⟩ := hends
    refine RS.q rfl (QO.assign) ?_
    refine RS.nil ?_
    refine thenC_n ?_
    refine CS.draw2 [12, 14, 16] (HT := [⟨go, 29, fl d2 (kp xs ch (a * b)).length jo⟩, ⟨gc, 29, (kp xs ch (a * b)).map flt ++ jk2⟩, ⟨g11, 29, (chV xs ch (a * b)).map flt ++ j11⟩, ⟨g4, 44, [flt 0, flt 0, flt 0, iv 0]⟩, ⟨g2, 26, [iv X, iv Y, iv (a : Int), iv (b : Int), .slice A n c]⟩]) (by repeat (first | exact List.Sublist.refl _ | exact List.nil_sublist _ | refine List.Sublist.cons_cons _ ?_ | refine List.Sublist.cons _ ?_ | exact Sbp.refl | exact Sbp.nil | refine Sbp.cons (by repeat (first | exact Rem.head | apply Rem.tail)) ?_ | exact Sbp.app | refine Sbp.skip ?_ | exact List.sublist_append_left _ _ | exact List.sublist_append_right _ _)) rfl (by kernel_rfl) ?_
    refine RT2.take1 (i := 0) rfl (by kernel_rfl) rfl (QO.move) ?_
    first | (refine RT2.take1 (i := 1) rfl (by kernel_rfl) rfl (QO.idx0 Try.underlying24 ty29 (by rfl) (by rfl) (by rfl) (by omega)) ?_) | (refine RT2.take1 (i := 1) rfl (by kernel_rfl) rfl (QO.idxn Try.underlying24 ty29 (by rfl) (by rfl) (by rfl) (by omega)) ?_) | (refine RT2.take1 (i := 1) rfl (by kernel_rfl) rfl (QO.idx1 Try.underlying24 ty29 (by rfl) (by rfl) (by omega) (by omega)) ?_)
    refine RT2.take1 (i := 2) rfl (by kernel_rfl) rfl (QO.load ty29 (by rfl) (by repeat (first | exact List.Mem.head _ | refine List.Mem.tail _ ?_)) (fl_at (i := 0) (by omega))) ?_
    refine RT2.take2 (i := 3) rfl (by kernel_rfl) rfl (QO.move) ?_
    refine RT2.take2 (i := 4) rfl (by kernel_rfl) rfl (QO.move) ?_
    refine RT2.take2 (i := 5) rfl (by kernel_rfl) rfl (QO.lenS Try.underlying24 (by rfl)) ?_
    first | (refine RT2.take2v (i := 6) rfl (by kernel_rfl) rfl (QO.sub (by rfl) (by rfl) (by omega) (by omega)) (congrArg iv (show ((kp xs ch (a * b)).length : Int) - 1 = (((kp xs ch (a * b)).length - 1 : Nat) : Int) by omega)) ?_) | (refine RT2.take2v (i := 6) rfl (by kernel_rfl) rfl (QO.ibin (by rfl) (by rfl) trivial) (congrArg iv (show ((kp xs ch (a * b)).length : Int) - 1 = (((kp xs ch (a * b)).length - 1 : Nat) : Int) by omega)) ?_)
    first | (refine RT2.take2 (i := 7) rfl (by kernel_rfl) rfl (QO.idx0 Try.underlying24 ty29 (by rfl) (by rfl) (by rfl) (by omega)) ?_) | (refine RT2.take2 (i := 7) rfl (by kernel_rfl) rfl (QO.idxn Try.underlying24 ty29 (by rfl) (by rfl) (by rfl) (by omega)) ?_) | (refine RT2.take2 (i := 7) rfl (by kernel_rfl) rfl (QO.idx1 Try.underlying24 ty29 (by rfl) (by rfl) (by omega) (by omega)) ?_)
    refine RT2.take2 (i := 8) rfl (by kernel_rfl) rfl (QO.load ty29 (by rfl) (by repeat (first | exact List.Mem.head _ | refine List.Mem.tail _ ?_)) (fl_at (i := (kp xs ch (a * b)).length - 1) (by omega))) ?_
    refine RT2.take2 (i := 9) rfl (by kernel_rfl) rfl (QO.move) ?_
    refine RT2.take1 (i := 11) rfl (by kernel_rfl) rfl (QO.fieldAddr fo44_0 (by rfl)) ?_
    refine RT2.one (i := 10) (by kernel_rfl) rfl ?_
    refine RS.call rfl (by rfl) ok67 (by rfl) (fun w ho => rmean (some ⟨gc, 0, none⟩) (kp xs ch (a * b)).length cp (kp xs ch (a * b)) _ rfl (by omega) hcpm (FS.blk ho (by repeat (first | exact List.Mem.head _ | refine List.Mem.tail _ ?_))) (by omega) (by omega) (hM (by omega))) ?_
    rintro _ _ ⟨rfl, rfl⟩
    refine RS.nil ⟨(by repeat (first | exact List.Sublist.refl _ | exact List.nil_sublist _ | refine List.Sublist.cons_cons _ ?_ | refine List.Sublist.cons _ ?_ | exact Sbp.refl | exact Sbp.nil | refine Sbp.cons (by repeat (first | exact Rem.head | apply Rem.tail)) ?_ | exact Sbp.app | refine Sbp.skip ?_ | exact List.sublist_append_left _ _ | exact List.sublist_append_right _ _)), (by repeat (first | exact List.Sublist.refl _ | exact List.nil_sublist _ | refine List.Sublist.cons_cons _ ?_ | refine List.Sublist.cons _ ?_ | exact Sbp.refl | exact Sbp.nil | refine Sbp.cons (by repeat (first | exact Rem.head | apply Rem.tail)) ?_ | exact Sbp.app | refine Sbp.skip ?_ | exact List.sublist_append_left _ _ | exact List.sublist_append_right _ _)), ?_⟩
    refine RT2.oneX (i := 12) (by kernel_rfl) rfl (by kernel_rfl) ?_
    refine RS.store1 ty29 rfl (by rfl) (by rfl) (by rfl) (by repeat (first | exact Upd.head | apply Upd.tail)) (by first | (simp; done) | (simp; omega) | omega) ?_
    refine RS.nil ⟨(by repeat (first | exact List.Sublist.refl _ | exact List.nil_sublist _ | refine List.Sublist.cons_cons _ ?_ | refine List.Sublist.cons _ ?_ | exact Sbp.refl | exact Sbp.nil | refine Sbp.cons (by repeat (first | exact Rem.head | apply Rem.tail)) ?_ | exact Sbp.app | refine Sbp.skip ?_ | exact List.sublist_append_left _ _ | exact List.sublist_append_right _ _)), ?_⟩
    refine RT2.take2 (i := 13) rfl (by kernel_rfl) rfl (QO.fieldAddr fo44_1 (by rfl)) ?_
    refine RT2.oneX (i := 14) (by kernel_rfl) rfl (by kernel_rfl) ?_
    refine RS.store1 ty29 rfl (by rfl) (by rfl) (by rfl) (by repeat (first | exact Upd.head | apply Upd.tail)) (by first | (simp; done) | (simp; omega) | omega) ?_
    refine RS.nil ⟨(by repeat (first | exact List.Sublist.refl _ | exact List.nil_sublist _ | refine List.Sublist.cons_cons _ ?_ | refine List.Sublist.cons _ ?_ | exact Sbp.refl | exact Sbp.nil | refine Sbp.cons (by repeat (first | exact Rem.head | apply Rem.tail)) ?_ | exact Sbp.app | refine Sbp.skip ?_ | exact List.sublist_append_left _ _ | exact List.sublist_append_right _ _)), ?_⟩
    refine RT2.take2 (i := 15) rfl (by kernel_rfl) rfl (QO.fieldAddr fo44_2 (by rfl)) ?_
    refine RT2.oneX (i := 16) (by kernel_rfl) rfl (by kernel_rfl) ?_
    refine RS.store1 ty29 rfl (by rfl) (by rfl) (by rfl) (by repeat (first | exact Upd.head | apply Upd.tail)) (by first | (simp; done) | (simp; omega) | omega) ?_
    refine RS.nil ⟨(by repeat (first | exact List.Sublist.refl _ | exact List.nil_sublist _ | refine List.Sublist.cons_cons _ ?_ | refine List.Sublist.cons _ ?_ | exact Sbp.refl | exact Sbp.nil | refine Sbp.cons (by repeat (first | exact Rem.head | apply Rem.tail)) ?_ | exact Sbp.app | refine Sbp.skip ?_ | exact List.sublist_append_left _ _ | exact List.sublist_append_right _ _)), ?_⟩
    refine RT2.done (by kernel_rfl) ?_
    refine thenC_n ?_
    refine CS.seq ?_
    refine CS.region ?_
    first | (refine RS.q rfl (QO.loadB ty44 (by rfl) (by repeat (first | exact List.Mem.head _ | refine List.Mem.tail _ ?_)) (by rfl)) ?_) | (refine RS.q rfl (QO.loadA ty44 (by rfl) (by repeat (first | exact List.Mem.head _ | refine List.Mem.tail _ ?_)) (by rfl) (by rfl)) ?_) | (refine RS.q rfl (QO.loadOA ty44 (by rfl) (by assumption) (by rfl)) ?_)
    first | refine RS.storeB ty44 (by rfl) (by rfl) (by rfl) (by rfl) (by rfl) (by repeat (first | exact Upd.head | apply Upd.tail)) (by rfl) ?_ | refine RS.storeP ty44 (by rfl) (by rfl) (by rfl) (by rfl) (by rfl) (by repeat (first | exact Upd.head | apply Upd.tail)) (by rfl) ?_
    refine RS.nil ?_
    refine thenC_n ?_
    refine CS.ret ?_
    refine retQ.mk (H' := []) (.inr rfl) (RVs.cellA ty44 (by rfl) (by repeat (first | exact List.Mem.head _ | refine List.Mem.tail _ ?_)) (by rfl) RVs.nil) (List.nil_sublist _) ?_
    exact ⟨_, _, _, rfl, .inr ⟨i0, j0, hi0, hj0, hL, hG, rfl, hmin, hmax⟩, rfl⟩
  · have hb0p := of_decide_eq_false hb0
    refine CS.skip ?_
    refine thenC_n ?_
    refine CS.seq ?_
    refine CS.region ?_
    first | (refine RS.q rfl (QO.loadB ty44 (by rfl) (by repeat (first | exact List.Mem.head _ | refine List.Mem.tail _ ?_)) (by rfl)) ?_) | (refine RS.q rfl (QO.loadA ty44 (by rfl) (by repeat (first | exact List.Mem.head _ | refine List.Mem.tail _ ?_)) (by rfl) (by rfl)) ?_) | (refine RS.q rfl (QO.loadOA ty44 (by rfl) (by assumption) (by rfl)) ?_)
    first | refine RS.storeB ty44 (by rfl) (by rfl) (by rfl) (by rfl) (by rfl) (by repeat (first | exact Upd.head | apply Upd.tail)) (by rfl) ?_ | refine RS.storeP ty44 (by rfl) (by rfl) (by rfl) (by rfl) (by rfl) (by repeat (first | exact Upd.head | apply Upd.tail)) (by rfl) ?_
    refine RS.nil ?_
    refine thenC_n ?_
    refine CS.ret ?_
    refine retQ.mk (H' := []) (.inr rfl) (RVs.cellA ty44 (by rfl) (by repeat (first | exact List.Mem.head _ | refine List.Mem.tail _ ?_)) (by rfl) RVs.nil) (List.nil_sublist _) ?_
    exact ⟨0, 0, 0, rfl, .inl ⟨List.eq_nil_of_length_eq_zero (by omega), rfl, rfl, rfl⟩, rfl⟩

end Go.Proofs.Ytapcgokcfmklbaa

namespace Go.Proofs.Ytapcgokcfmklbaa
open Go Go.RowKit

/-- how a single reads -/
theorem read_form (b : Nat) : ∃ s, Ieee.single.read b = (if b % 2147483648 < 8388608 then .number s (b % 2147483648) (-149) else if b % 2147483648 < 2139095040 then .number s (8388608 + b % 2147483648 % 8388608) (-149 + ((b % 2147483648 / 8388608 - 1 : Nat) : Int)) else if b % 2147483648 = 2139095040 then .infinity s else .nan s (b % 2147483648 - 2139095040)) ∧ s = (b / 2147483648 % 2 == 1) := by
  have e1 : Ieee.single.signWeight = 2147483648 := rfl
  have e2 : Ieee.single.binade = 8388608 := rfl
  have e3 : Ieee.single.infRung = 2139095040 := rfl
  have e4 : Ieee.single.leastPlace = -149 := by decide
  refine ⟨_, ?_, rfl⟩
  unfold Ieee.Format.read
  simp only [e1, e2, e3, e4]
/-- what is below 2^127 does not round to an infinity -/
theorem near_fin (neg : Bool) {m : Nat} {p : Int} (h0 : m ≠ 0) (hE : p + (m.log2 : Int) ≤ 126) : (Ieee.single.read (Ieee.single.nearest neg m p)).isInfinity = false := by
  obtain ⟨E, hEv⟩ : ∃ E, p + (m.log2 : Int) = E := ⟨_, rfl⟩
  rw [hEv] at hE
  have g1 : Ieee.single.fractionBits = 23 := rfl
  have g2 : Ieee.single.leastPlace = -149 := by decide
  have g3 : Ieee.single.binade = 8388608 := by decide
  have g4 : Ieee.single.infRung = 2139095040 := by decide
  have c24 : (2 : Nat) ^ 24 = 16777216 := by decide
  obtain ⟨L, hL⟩ : ∃ L : Int, max (E - 23) (-149) = L := ⟨_, rfl⟩
  have hnr := nearest_rnd Ieee.single neg h0 (p := p) (L := L) (by rw [g1, g2, hEv]; exact hL)
  rw [g2, g3, g4] at hnr
  obtain ⟨K, hK⟩ : ∃ K, rnd (m * 2 ^ (p - L).toNat) (L - p).toNat = K := ⟨_, rfl⟩
  rw [hK] at hnr
  obtain ⟨u, hu⟩ : ∃ u : Nat, (L - -149).toNat = u := ⟨_, rfl⟩
  rw [hu] at hnr
  have hKb : K ≤ 2 ^ 24 := by
    by_cases hc : L ≤ p
    · have e2 : (L - p).toNat = 0 := by omega
      rw [e2, rnd_zero] at hK
      have hl2 := log2_up (t := (p - L).toNat) h0
      have h1 : m * 2 ^ (p - L).toNat < 2 ^ ((m * 2 ^ (p - L).toNat).log2 + 1) := Nat.lt_log2_self
      rw [hl2, hK] at h1
      have h2 : 2 ^ (m.log2 + (p - L).toNat + 1) ≤ 2 ^ 24 := Nat.pow_le_pow_right (by decide) (by omega)
      omega
    · have e1 : (p - L).toNat = 0 := by omega
      rw [e1, Nat.pow_zero, Nat.mul_one] at hK
      obtain ⟨k, hk⟩ : ∃ k, (L - p).toNat = k := ⟨_, rfl⟩
      rw [hk] at hK
      by_cases hkl : k ≤ m.log2
      · have h5 := rnd_bd (k := k) h0 hkl
        rw [hK] at h5
        have h2 : 2 ^ (m.log2 - k + 1) ≤ 2 ^ 24 := Nat.pow_le_pow_right (by decide) (by omega)
        omega
      · have hlt : m < 2 ^ (m.log2 + 1) := Nat.lt_log2_self
        have h6 : 2 ^ (m.log2 + 1) ≤ 2 ^ k := Nat.pow_le_pow_right (by decide) (by omega)
        rw [← hK]
        unfold rnd
        rw [Nat.div_eq_of_lt (by omega), c24]
        split <;> omega
  rw [c24] at hKb
  have hub : u ≤ 252 := by omega
  rw [Nat.min_eq_left (by omega)] at hnr
  rw [hnr, word_read neg (by omega)]
  split <;> rfl
/-- what is read is rounded to itself -/
theorem near_self {x : Nat} {s : Bool} {m : Nat} {i : Int} (h : Ieee.single.read x = .number s m i) (h0 : m ≠ 0) : (Ieee.single.read (Ieee.single.nearest s m i)).isInfinity = false := by
  have hb := num_bd h
  obtain ⟨s2, h1, _⟩ := read_form x
  rw [h1] at h
  have hform : i = -149 ∧ m < 8388608 ∨ 8388608 ≤ m := by
    split at h
    · cases h; left; exact ⟨rfl, by assumption⟩
    · split at h
      · cases h; right; omega
      · split at h <;> cases h
  have g1 : Ieee.single.fractionBits = 23 := rfl
  have g2 : Ieee.single.leastPlace = -149 := by decide
  have g3 : Ieee.single.binade = 8388608 := by decide
  have g4 : Ieee.single.infRung = 2139095040 := by decide
  have hlog : max (i + m.log2 - 23) (-149) = i := by
    have h23 := single_log h0 hb.1
    rcases hform with ⟨h2, h3⟩ | h2
    · omega
    · have c : (2 : Nat) ^ 23 = 8388608 := by decide
      have h4 : 23 ≤ m.log2 := (Nat.le_log2 h0).2 (by rw [c]; exact h2)
      omega
  have hnr := nearest_rnd Ieee.single s h0 (p := i) (L := i) (by rw [g1, g2]; exact hlog)
  have e1 : (i - i).toNat = 0 := by omega
  rw [g2, g3, g4, e1, Nat.pow_zero, Nat.mul_one, rnd_zero, Nat.min_eq_left (by omega)] at hnr
  rw [hnr, word_read s (by omega)]
  split <;> rfl
theorem near_num (neg : Bool) {m : Nat} {p : Int} : nan32 (Ieee.single.nearest neg m p) = false := by
  by_cases h0 : m = 0
  · have e : Ieee.single.nearest neg m p = Ieee.single.word neg 0 := if_pos h0
    rw [e]; cases neg <;> decide
  · obtain ⟨L, hL⟩ : ∃ L : Int, max (p + m.log2 - Ieee.single.fractionBits) Ieee.single.leastPlace = L := ⟨_, rfl⟩
    rw [nearest_rnd Ieee.single neg h0 hL]
    have g4 : Ieee.single.infRung = 2139095040 := by decide
    have g5 : Ieee.single.signWeight = 2147483648 := rfl
    rw [g4]
    unfold nan32 Ieee.Format.word
    rw [g5]
    cases neg
    · simp only [Bool.false_eq_true, if_false, decide_eq_false_iff_not]; omega
    · simp only [if_true, decide_eq_false_iff_not]; omega
theorem mean_ok {s n : Nat} (hs : s < 4294967296) (h0 : 0 < n) (hn : n < 65) : MeanOK s n := by
  unfold MeanOK
  cases hnan : nan32 s
  · right
    rcases read_num hnan with ⟨sg, m, i, hr⟩ | ⟨sg, hr⟩
    · by_cases hm : m = 0
      · subst hm
        obtain ⟨s2, h1, _⟩ := read_form s
        rw [h1] at hr
        have hz : s % 2147483648 = 0 := by
          split at hr
          · simp only [Ieee.Datum.number.injEq] at hr; exact hr.2.1
          · split at hr
            · simp only [Ieee.Datum.number.injEq] at hr; omega
            · split at hr <;> cases hr
        have : s = 0 ∨ s = 2147483648 := by omega
        rcases this with rfl | rfl
        · exact dv_0 n hn h0
        · exact dv_m0 n hn h0
      · obtain ⟨k, j, hy, _, hj⟩ := cv_whole (n := (n : Int)) (by omega)
        obtain ⟨hk, hj⟩ := hj (by omega)
        have hbx := num_bd hr
        have hby := num_bd hy
        have hdiv := single_div hr hy hk
        obtain ⟨r, hr2⟩ : ∃ r, fop .quo s (cvF (n : Int)) = some r := ⟨_, hdiv⟩
        have hre : Ieee.single.nearest (sg ^^ decide ((n : Int) < 0)) (stk (m * 2 ^ (25 + k.log2 - m.log2)) k) (i - j - ((25 + k.log2 - m.log2 : Nat) : Int) - 1) = r := by
          have h3 : fop .quo s (cvF (n : Int)) = _ := hdiv
          rw [h3] at hr2; exact Option.some.inj hr2
        have lm := single_log hm hbx.1
        have lk := single_log hk hby.1
        have hsg : (sg ^^ decide ((n : Int) < 0)) = sg := by rw [decide_eq_false (by omega)]; cases sg <;> rfl
        rw [hsg] at hre
        have hfin : (Ieee.single.read r).isInfinity = false := by
          by_cases h1 : n = 1
          · subst h1
            have hy1 : Ieee.single.read (cvF ((1 : Nat) : Int)) = .number false 8388608 (-23) := by decide +kernel
            rw [hy1] at hy
            cases hy
            have lk1 : (8388608 : Nat).log2 = 23 := by decide +kernel
            rw [lk1] at hre
            obtain ⟨f, hf⟩ : ∃ f, 25 - m.log2 = f := ⟨_, rfl⟩
            have e1 : 25 + 23 - m.log2 = f + 23 := by omega
            have c23 : (2 : Nat) ^ 23 = 8388608 := by decide
            have e2 : stk (m * 2 ^ (25 + 23 - m.log2)) 8388608 = m * 2 ^ (f + 1) := by
              rw [e1, Nat.pow_add, c23, ← Nat.mul_assoc]
              unfold stk
              rw [Nat.mul_div_cancel _ (by decide), Nat.mul_mod_left, if_pos rfl, Nat.pow_succ, ← Nat.mul_assoc, Nat.add_zero, Nat.mul_comm 2, Nat.mul_assoc, Nat.mul_comm 2]
            rw [e2, nearest_up Ieee.single sg hm] at hre
            have e3 : i - -23 - ((25 + 23 - m.log2 : Nat) : Int) - 1 + ((f + 1 : Nat) : Int) = i := by omega
            rw [e3] at hre
            rw [← hre]
            exact near_self hr hm
          · have hl1 : 1 ≤ ((n : Int).natAbs).log2 := (Nat.le_log2 (by omega)).2 (by omega)
            obtain ⟨ll, hll⟩ : ∃ ll, ((n : Int).natAbs).log2 = ll := ⟨_, rfl⟩
            rw [hll] at hl1 hj
            obtain ⟨e, he⟩ : ∃ e, 25 + k.log2 - m.log2 = e := ⟨_, rfl⟩
            rw [he] at hre
            have hk1 : 0 < k := Nat.pos_of_ne_zero hk
            have hm1 := Nat.log2_self_le hm
            have hm2 : m < 2 ^ (m.log2 + 1) := Nat.lt_log2_self
            have hk2 := Nat.log2_self_le hk
            have hk3 : k < 2 ^ (k.log2 + 1) := Nat.lt_log2_self
            have hX2 : m * 2 ^ e < 2 ^ 26 * k := by
              have h3 : m * 2 ^ e < 2 ^ (m.log2 + 1) * 2 ^ e := Nat.mul_lt_mul_of_pos_right hm2 (Nat.two_pow_pos _)
              rw [← Nat.pow_add, show m.log2 + 1 + e = 26 + k.log2 by omega, Nat.pow_add] at h3
              have h4 : 2 ^ 26 * 2 ^ k.log2 ≤ 2 ^ 26 * k := Nat.mul_le_mul_left _ hk2
              exact Nat.lt_of_lt_of_le h3 h4
            have hX1 : k ≤ m * 2 ^ e := by
              have h3 : 2 ^ m.log2 * 2 ^ e ≤ m * 2 ^ e := Nat.mul_le_mul_right _ hm1
              rw [← Nat.pow_add] at h3
              have h4 : 2 ^ (k.log2 + 1) ≤ 2 ^ (m.log2 + e) := Nat.pow_le_pow_right (by decide) (by omega)
              omega
            have hQ2 : m * 2 ^ e / k < 2 ^ 26 := (Nat.div_lt_iff_lt_mul hk1).2 hX2
            have hQ1 : 1 ≤ m * 2 ^ e / k := (Nat.le_div_iff_mul_le hk1).2 (by omega)
            have c26 : (2 : Nat) ^ 26 = 67108864 := by decide
            have c27 : (2 : Nat) ^ 27 = 134217728 := by decide
            rw [c26] at hQ2
            have hs2 : 2 * (m * 2 ^ e / k) ≤ stk (m * 2 ^ e) k ∧ stk (m * 2 ^ e) k ≤ 2 * (m * 2 ^ e / k) + 1 := by unfold stk; split <;> omega
            have h00 : stk (m * 2 ^ e) k ≠ 0 := by omega
            have h5 : (stk (m * 2 ^ e) k).log2 < 27 := (Nat.log2_lt h00).2 (by rw [c27]; omega)
            rw [← hre]
            exact near_fin sg h00 (by omega)
        obtain ⟨X, Y, Z, h1, h2, h3, h4⟩ := quo_double hr hy hm hk hr2 hfin
        have hnn : nan32 r = false := by rw [← hre]; exact near_num sg
        have hfo : fo .quo s (cvF (n : Int)) = r := by
          unfold fo; rw [hr2]; exact cl_num hnn
        rw [hfo]
        unfold dvD
        rw [h1]; simp only [Option.bind_some]
        rw [h2]; simp only [Option.bind_some]
        rw [h3]; simp only [Option.bind_some]
        exact h4
    · obtain ⟨s2, h1, _⟩ := read_form s
      rw [h1] at hr
      have hz : s % 2147483648 = 2139095040 := by
        split at hr
        · cases hr
        · split at hr
          · cases hr
          · split at hr
            · assumption
            · cases hr
      have : s = 2139095040 ∨ s = 4286578688 := by omega
      rcases this with rfl | rfl
      · exact dv_inf n hn h0
      · exact dv_minf n hn h0
  · exact .inl rfl
theorem sum_lt {l : List Nat} (h : ∀ x ∈ l, x < 4294967296) : sum l < 4294967296 := by
  match l, h with
  | [], _ => decide
  | [x], h =>
    rw [sum_one]
    have := h x (List.mem_cons_self ..)
    unfold cl; split <;> omega
  | a :: b :: l, _ => rw [sum_more (by simp)]; exact fo_lt _ _ _
theorem means {l : List Nat} (h : ∀ x ∈ l, x < 4294967296) (h0 : 0 < l.length) (hn : l.length < 65) : MeanOK (sum l) l.length := mean_ok (sum_lt h) h0 hn
end Go.Proofs.Ytapcgokcfmklbaa

namespace Go.Proofs.Ytapcgokcfmklbaa
open Go Go.Proofs Go.RowKit

theorem ty49 : tyChk Try.prog 49 = some ([.int .i64 0, .int .i64 0, .int .i64 0, .int .i64 0, .int .i64 0], true, 40) := by kernel_rfl
theorem ty114 : tyChk Try.prog 114 = some ([.int .i64 0, .int .i64 0, .int .i64 0, .int .i64 0, .int .i64 0], true, 40) := by kernel_rfl
theorem pl49 : places Try.prog 49 = some #[(0, 1), (1, 1), (2, 1), (3, 1), (4, 1)] := by kernel_rfl
theorem ok59 : callOK Try.prog 59 = true := by kernel_rfl

def anN (x : Nat) : Int := IntKind.u32.wrap ((BitVec.ofInt IntKind.u32.bits ((cl x : Nat) : Int) &&& BitVec.ofInt IntKind.u32.bits 2139095040).toNat : Int)
/-- the kind of a single, as the program tells it -/
def kdP (x : Nat) : Nat := if nan32 x = true then 4 else if fcmpB .eql x 0 = true then 0 else if (fcmpB .gtr x 2139095039 || fcmpB .lss x 4286578687) = true then 3 else if anN x = 0 then 1 else 2
/-- the magnitude's bits -/
def abN (x : Nat) : Nat := (IntKind.u32.wrap (BitVec.ofInt 32 (x : Int) &&& ~~~ BitVec.ofInt 32 2147483648).toNat).toNat
def kdR (x : Nat) : Nat := if nan32 x = true then 4 else if fcmpB .eql x 0 = true then 0 else if numB x = false then 3 else if fcmpB .lss (abN x) 8388608 = true then 1 else 2
def upC (f : Nat → Nat) (q : Nat) : Nat → Nat := fun k => if k = q then f k + 1 else f k
def cn (f : Nat → Nat) : Nat → Nat → Nat
  | 0 => fun _ => 0
  | k + 1 => upC (cn f k) (f k)
theorem cn_sum (f : Nat → Nat) (h : ∀ i, f i < 5) : ∀ k, cn f k 0 + cn f k 1 + cn f k 2 + cn f k 3 + cn f k 4 = k
  | 0 => rfl
  | k + 1 => by
    have ih := cn_sum f h k
    have h1 := h k
    show upC (cn f k) (f k) 0 + upC (cn f k) (f k) 1 + upC (cn f k) (f k) 2 + upC (cn f k) (f k) 3 + upC (cn f k) (f k) 4 = k + 1
    unfold upC
    match e : f k, h1 with
    | 0, _ => simp; omega
    | 1, _ => simp; omega
    | 2, _ => simp; omega
    | 3, _ => simp; omega
    | 4, _ => simp; omega
theorem cn_le (f : Nat → Nat) (k q : Nat) : cn f k q ≤ k := by
  induction k with
  | zero => exact Nat.le_refl _
  | succ k ih =>
    show upC (cn f k) (f k) q ≤ k + 1
    unfold upC
    split <;> omega
def cells5 (g : Nat → Nat) : List Value := [iv (g 0 : Int), iv (g 1 : Int), iv (g 2 : Int), iv (g 3 : Int), iv (g 4 : Int)]
theorem cells5_at (g : Nat → Nat) {q : Nat} (h : q < 5) : (cells5 g)[q]? = some (iv (g q : Int)) := by
  match q, h with
  | 0, _ => rfl
  | 1, _ => rfl
  | 2, _ => rfl
  | 3, _ => rfl
  | 4, _ => rfl
theorem cells5_set (g : Nat → Nat) {q : Nat} (h : q < 5) : (cells5 g).set q (iv ((g q + 1 : Nat) : Int)) = cells5 (upC g q) := by
  match q, h with
  | 0, _ => rfl
  | 1, _ => rfl
  | 2, _ => rfl
  | 3, _ => rfl
  | 4, _ => rfl
theorem kdP_lt (x : Nat) : kdP x < 5 := by unfold kdP; repeat (split <;> try omega)
set_option maxHeartbeats 4000000 in
set_option maxRecDepth 100000 in
theorem kind_ (x : Nat) (W : World) : Fn_ Try.prog 59 #[flt x] W (fun v H => v = iv (kdP x : Int) ∧ H = []) := by
  refine Fn_.intro Try.func59 rfl rfl (by rfl) ?_
  refine CS.seq ?_
  refine CS.region ?_
  refine RS.q rfl (QO.assign) ?_
  refine RS.nil ?_
  refine thenC_n ?_
  refine CS.seq ?_
  refine CS.block ?_
  refine CS.seq ?_
  refine CS.region ?_
  refine RS.q rfl (QO.move) ?_
  refine RS.q rfl (QO.move) ?_
  refine RS.qv rfl (QO.fcmp32 (by rfl) (by rfl) (by simp)) (congrArg Value.bool (fneq_self x)) ?_
  refine RS.q rfl (QO.assign) ?_
  refine RS.nil ?_
  refine thenC_n ?_
  refine CS.cond (by rfl) (fun hb0 => ?_) (fun hb0 => ?_)
  · refine CS.seq ?_
    refine CS.region ?_
    refine RS.q rfl (QO.assign) ?_
    refine RS.nil ?_
    refine thenC_n ?_
    refine CS.ret ?_
    refine blockC_r ?_
    refine thenC_r ?_
    refine retQ.mk (H' := []) (.inr rfl) (RVs.tmp (by rfl) RVs.nil) (List.nil_sublist _) ?_
    exact ⟨congrArg (fun q : Nat => iv (q : Int)) (show 4 = kdP x by unfold kdP; rw [if_pos (by assumption)]), rfl⟩
  · refine CS.seq ?_
    refine CS.region ?_
    refine RS.q rfl (QO.move) ?_
    refine RS.q rfl (QO.fcmp32 (by rfl) (by rfl) (by simp)) ?_
    refine RS.q rfl (QO.assign) ?_
    refine RS.nil ?_
    refine thenC_n ?_
    refine CS.cond (by rfl) (fun hb1 => ?_) (fun hb1 => ?_)
    · refine CS.seq ?_
      refine CS.region ?_
      refine RS.q rfl (QO.assign) ?_
      refine RS.nil ?_
      refine thenC_n ?_
      refine CS.ret ?_
      refine blockC_r ?_
      refine thenC_r ?_
      refine retQ.mk (H' := []) (.inr rfl) (RVs.tmp (by rfl) RVs.nil) (List.nil_sublist _) ?_
      exact ⟨congrArg (fun q : Nat => iv (q : Int)) (show 0 = kdP x by unfold kdP; rw [if_neg (by simp_all), if_pos (by assumption)]), rfl⟩
    · refine CS.seq ?_
      refine CS.region ?_
      refine RS.q rfl (QO.move) ?_
      refine RS.call rfl (by rfl) ok114 (by rfl) (fun w ho => infinite x _) ?_
      rintro _ _ ⟨rfl, rfl⟩
      refine RS.q rfl (QO.assign) ?_
      refine RS.nil ?_
      refine thenC_n ?_
      refine CS.cond (by rfl) (fun hb2 => ?_) (fun hb2 => ?_)
      · refine CS.seq ?_
        refine CS.region ?_
        refine RS.q rfl (QO.assign) ?_
        refine RS.nil ?_
        refine thenC_n ?_
        refine CS.ret ?_
        refine blockC_r ?_
        refine thenC_r ?_
        refine retQ.mk (H' := []) (.inr rfl) (RVs.tmp (by rfl) RVs.nil) (List.nil_sublist _) ?_
        exact ⟨congrArg (fun q : Nat => iv (q : Int)) (show 3 = kdP x by unfold kdP; rw [if_neg (by simp_all), if_neg (by simp_all), if_pos (by assumption)]), rfl⟩
      · refine CS.seq ?_
        refine CS.region ?_
        refine RS.q rfl (QO.move) ?_
        refine RS.call rfl (by rfl) ok43 (by rfl) (fun w ho => bits _ _) ?_
        rintro _ _ ⟨rfl, rfl⟩
        refine RS.q rfl (QO.ibin (by rfl) (by rfl) trivial) ?_
        refine RS.q rfl (QO.eql (by rfl) (by rfl)) ?_
        refine RS.q rfl (QO.assign) ?_
        refine RS.nil ?_
        refine thenC_n ?_
        refine CS.cond (by rfl) (fun hb3 => ?_) (fun hb3 => ?_)
        · have hb3p := eq_of_beq hb3
          refine CS.seq ?_
          refine CS.region ?_
          refine RS.q rfl (QO.assign) ?_
          refine RS.nil ?_
          refine thenC_n ?_
          refine CS.ret ?_
          refine blockC_r ?_
          refine thenC_r ?_
          refine retQ.mk (H' := []) (.inr rfl) (RVs.tmp (by rfl) RVs.nil) (List.nil_sublist _) ?_
          exact ⟨congrArg (fun q : Nat => iv (q : Int)) (show 1 = kdP x by unfold kdP; rw [if_neg (by simp_all), if_neg (by simp_all), if_neg (by simp_all), if_pos (show anN x = 0 by assumption)]), rfl⟩
        · have hb3p := ne_of_beq_false hb3
          refine CS.skip ?_
          refine blockC_n ?_
          refine thenC_n ?_
          refine CS.seq ?_
          refine CS.region ?_
          refine RS.q rfl (QO.assign) ?_
          refine RS.nil ?_
          refine thenC_n ?_
          refine CS.ret ?_
          refine retQ.mk (H' := []) (.inr rfl) (RVs.tmp (by rfl) RVs.nil) (List.nil_sublist _) ?_
          exact ⟨congrArg (fun q : Nat => iv (q : Int)) (show 2 = kdP x by unfold kdP; rw [if_neg (by simp_all), if_neg (by simp_all), if_neg (by simp_all), if_neg (show ¬ anN x = 0 by assumption)]), rfl⟩

set_option maxHeartbeats 4000000 in
set_option maxRecDepth 100000 in
theorem pOdd (X Y : Int) (a b : Nat) (A : Option Addr) (n c : Nat) (xs : List Nat) (W : World) (hn : xs.length = n) (hA : FS W A xs) (hfr : frErr X Y (a : Int) (b : Int) n = 0) (hm : n ≤ 1000000) (hn0 : 0 < n) : Fn_ Try.prog 17 #[.agg #[iv X, iv Y, iv (a : Int), iv (b : Int), .slice A n c]] W (fun v H => v = .tuple #[.agg #[iv (cn (fun i => kdP (gd xs i)) n 0 : Int), iv (cn (fun i => kdP (gd xs i)) n 1 : Int), iv (cn (fun i => kdP (gd xs i)) n 2 : Int), iv (cn (fun i => kdP (gd xs i)) n 3 : Int), iv (cn (fun i => kdP (gd xs i)) n 4 : Int)], iv 0] ∧ H = []) := by
  have hx0 := hA (by omega)
  obtain ⟨bS, oS, hAA, hcS⟩ := hx0
  subst hAA
  refine Fn_.intro Try.func17 rfl rfl (by rfl) ?_
  refine CS.seq ?_
  refine CS.region ?_
  refine RS.box rfl (by rfl) (by rfl) ?_
  intro g1
  refine RS.alloc rfl ty49 ?_
  intro g2
  refine RS.q rfl (QO.assign) ?_
  refine RS.nil ?_
  refine thenC_n ?_
  refine CS.seq ?_
  refine CS.seq ?_
  refine CS.region ?_
  first | (refine RS.q rfl (QO.loadB ty26 (by rfl) (by repeat (first | exact List.Mem.head _ | refine List.Mem.tail _ ?_)) (by rfl)) ?_) | (refine RS.q rfl (QO.loadA ty26 (by rfl) (by repeat (first | exact List.Mem.head _ | refine List.Mem.tail _ ?_)) (by rfl) (by rfl)) ?_) | (refine RS.q rfl (QO.loadOA ty26 (by rfl) (by assumption) (by rfl)) ?_)
  refine RS.call rfl (by rfl) ok58 (by rfl) (fun w ho => check X Y (a : Int) (b : Int) (some ⟨bS, oS, none⟩) n c _) ?_
  rintro _ _ ⟨rfl, rfl⟩
  refine RS.q rfl (QO.assign) ?_
  refine RS.nil ?_
  refine thenC_n ?_
  refine CS.seq ?_
  refine CS.region ?_
  refine RS.q rfl (QO.move) ?_
  refine RS.qv rfl (QO.neq (by rfl) (by rfl)) (congrArg Value.bool (show (frErr X Y (a : Int) (b : Int) n != 0) = false from by rw [hfr]; rfl)) ?_
  refine RS.nil ?_
  refine thenC_n ?_
  refine CS.condF (by rfl) rfl ?_
  refine CS.skip ?_
  refine thenC_n ?_
  refine CS.seq ?_
  refine CS.region ?_
  refine RS.alloc rfl ty114 ?_
  intro g5
  refine RS.nil ?_
  refine thenC_n ?_
  refine CS.seq ?_
  refine CS.seq ?_
  refine CS.region ?_
  refine RS.q rfl (QO.fieldAddr fo26_1 (by rfl)) ?_
  first | (refine RS.q rfl (QO.load ty24 (by rfl) (by repeat (first | exact List.Mem.head _ | refine List.Mem.tail _ ?_)) (by rfl)) ?_) | (refine RS.q rfl (QO.loadO ty24 (by rfl) (by assumption)) ?_) | (refine RS.q rfl (QO.load ty24 (by rfl) (by repeat (first | exact List.Mem.head _ | refine List.Mem.tail _ ?_)) (by assumption)) ?_)
  refine RS.q rfl (QO.lenS Try.underlying24 (by rfl)) ?_
  refine RS.q rfl (QO.move) ?_
  refine RS.nil ?_
  refine thenC_n ?_
  refine CS.block ?_
  refine CS.loop (X := Nat) (7 :: 17 :: 18 :: 19 :: 20 :: 21 :: 22 :: 23 :: 24 :: 25 :: 26 :: 27 :: []) (fun k => [(17, iv (k : Int))]) (fun k => [⟨g5, 114, cells5 (cn (fun i => kdP (gd xs i)) k)⟩, ⟨g2, 49, [iv 0, iv 0, iv 0, iv 0, iv 0]⟩, ⟨g1, 26, [iv X, iv Y, iv (a : Int), iv (b : Int), .slice (some ⟨bS, oS, none⟩) n c]⟩]) (fun k => k ≤ n) (fun k => n - k) 0 (Nat.zero_le _) ?_ ?_ ?_
  · exact (by repeat (first | exact kn_nil | refine kn_cons (by rfl) ?_))
  · exact (by repeat (first | exact List.Sublist.refl _ | exact List.nil_sublist _ | refine List.Sublist.cons_cons _ ?_ | refine List.Sublist.cons _ ?_ | exact Sbp.refl | exact Sbp.nil | refine Sbp.cons (by repeat (first | exact Rem.head | apply Rem.tail)) ?_ | exact Sbp.app | refine Sbp.skip ?_ | exact List.sublist_append_left _ _ | exact List.sublist_append_right _ _))
  · intro k gj6 hz
    refine CS.seq ?_
    refine CS.region ?_
    refine RS.q rfl (QO.lss (by rfl) (by rfl)) ?_
    refine RS.nil ?_
    refine thenC_n ?_
    refine CS.seq ?_
    refine CS.cond (by rfl) (fun hb0 => ?_) (fun hb0 => ?_)
    · have hb0p := of_decide_eq_true hb0
      refine CS.skip ?_
      refine thenC_n ?_
      refine CS.seq ?_
      refine CS.block ?_
      refine CS.seq ?_
      refine CS.region ?_
      first | (refine RS.q rfl (QO.idx0 Try.underlying24 ty29 (by rfl) (by rfl) (by rfl) (by omega)) ?_) | (refine RS.q rfl (QO.idxn Try.underlying24 ty29 (by rfl) (by rfl) (by rfl) (by omega)) ?_) | (refine RS.q rfl (QO.idx1 Try.underlying24 ty29 (by rfl) (by rfl) (by omega) (by omega)) ?_)
      refine RS.q rfl (QO.loadO ty29 (by rfl) (hcS k _ (gd_at (show k < xs.length by omega)))) ?_
      refine RS.q rfl (QO.assign) ?_
      refine RS.nil ?_
      refine thenC_n ?_
      refine CS.region ?_
      refine RS.q rfl (QO.move) ?_
      refine RS.call rfl (by rfl) ok59 (by rfl) (fun w ho => kind_ (gd xs k) _) ?_
      rintro _ _ ⟨rfl, rfl⟩
      have hkd := kdP_lt (gd xs k)
      have hcn := cn_le (fun i => kdP (gd xs i)) k (kdP (gd xs k))
      first | (refine RS.q rfl (QO.idxArr0 Try.underlying114 ty3 (by rfl) (by rfl) (by rfl) (by omega)) ?_) | (refine RS.q rfl (QO.idxArrn Try.underlying114 ty3 (by rfl) (by rfl) (by rfl) (by omega)) ?_) | (refine RS.q rfl (QO.idxArr Try.underlying114 ty3 (by rfl) (by rfl) (by omega) (by omega)) ?_)
      refine RS.q rfl (QO.load ty3 (by rfl) (by repeat (first | exact List.Mem.head _ | refine List.Mem.tail _ ?_)) (cells5_at (cn (fun i => kdP (gd xs i)) k) hkd)) ?_
      first | (refine RS.qv rfl (QO.add (by rfl) (by rfl) (by omega) (by omega)) (congrArg iv (show (((cn (fun i => kdP (gd xs i)) k) (kdP (gd xs k)) : Nat) : Int) + 1 = (((cn (fun i => kdP (gd xs i)) k) (kdP (gd xs k)) + 1 : Nat) : Int) by omega)) ?_) | (refine RS.qv rfl (QO.ibin (by rfl) (by rfl) trivial) (congrArg iv (show (((cn (fun i => kdP (gd xs i)) k) (kdP (gd xs k)) : Nat) : Int) + 1 = (((cn (fun i => kdP (gd xs i)) k) (kdP (gd xs k)) + 1 : Nat) : Int) by omega)) ?_)
      first | (refine RS.q rfl (QO.idxArr0 Try.underlying114 ty3 (by rfl) (by rfl) (by rfl) (by omega)) ?_) | (refine RS.q rfl (QO.idxArrn Try.underlying114 ty3 (by rfl) (by rfl) (by rfl) (by omega)) ?_) | (refine RS.q rfl (QO.idxArr Try.underlying114 ty3 (by rfl) (by rfl) (by omega) (by omega)) ?_)
      refine RS.store1e ty3 rfl (by rfl) (by rfl) (by rfl) (cells5_set (cn (fun i => kdP (gd xs i)) k) hkd) (by repeat (first | exact Upd.head | apply Upd.tail)) (by show kdP (gd xs k) < 5; exact hkd) ?_
      refine RS.nil ?_
      refine blockC_n ?_
      refine thenC_n ?_
      refine CS.region ?_
      first | (refine RS.q rfl (QO.add (by rfl) (by rfl) (by omega) (by omega)) ?_) | (refine RS.q rfl (QO.ibin (by rfl) (by rfl) trivial) ?_)
      refine RS.q rfl (QO.move) ?_
      refine RS.nil ?_
      refine loopQ_n (by intro t ht; repeat (first | with_reducible exact rfl | exact frame_puts ht (frame_mix ht) _ rfl | (refine frame_put rfl ht ?_) | (refine frame_puts ht ?_ _ rfl) | exact frame_mix ht | (refine frame_mix2 rfl ht ?_) | exact rfl)) ?_
      exact ⟨k + 1, by omega, by omega, (by repeat (first | exact kn_nil | refine kn_cons (by rfl) ?_)), (by repeat (first | exact List.Sublist.refl _ | exact List.nil_sublist _ | refine List.Sublist.cons_cons _ ?_ | refine List.Sublist.cons _ ?_ | exact Sbp.refl | exact Sbp.nil | refine Sbp.cons (by repeat (first | exact Rem.head | apply Rem.tail)) ?_ | exact Sbp.app | refine Sbp.skip ?_ | exact List.sublist_append_left _ _ | exact List.sublist_append_right _ _))⟩
    · have hb0p := of_decide_eq_false hb0
      refine CS.exit ?_
      refine thenC_x ?_
      refine loopQ_x ?_
      refine blockC_x ?_
      refine thenC_n ?_
      refine CS.seq ?_
      refine CS.region ?_
      first | (refine RS.q rfl (QO.idxArr0 Try.underlying114 ty3 (by rfl) (by rfl) (by rfl) (by omega)) ?_) | (refine RS.q rfl (QO.idxArrn Try.underlying114 ty3 (by rfl) (by rfl) (by rfl) (by omega)) ?_) | (refine RS.q rfl (QO.idxArr Try.underlying114 ty3 (by rfl) (by rfl) (by omega) (by omega)) ?_)
      first | (refine RS.q rfl (QO.load ty3 (by rfl) (by repeat (first | exact List.Mem.head _ | refine List.Mem.tail _ ?_)) (by rfl)) ?_) | (refine RS.q rfl (QO.loadO ty3 (by rfl) (by assumption)) ?_) | (refine RS.q rfl (QO.load ty3 (by rfl) (by repeat (first | exact List.Mem.head _ | refine List.Mem.tail _ ?_)) (by assumption)) ?_)
      first | (refine RS.q rfl (QO.idxArr0 Try.underlying114 ty3 (by rfl) (by rfl) (by rfl) (by omega)) ?_) | (refine RS.q rfl (QO.idxArrn Try.underlying114 ty3 (by rfl) (by rfl) (by rfl) (by omega)) ?_) | (refine RS.q rfl (QO.idxArr Try.underlying114 ty3 (by rfl) (by rfl) (by omega) (by omega)) ?_)
      first | (refine RS.q rfl (QO.load ty3 (by rfl) (by repeat (first | exact List.Mem.head _ | refine List.Mem.tail _ ?_)) (by rfl)) ?_) | (refine RS.q rfl (QO.loadO ty3 (by rfl) (by assumption)) ?_) | (refine RS.q rfl (QO.load ty3 (by rfl) (by repeat (first | exact List.Mem.head _ | refine List.Mem.tail _ ?_)) (by assumption)) ?_)
      first | (refine RS.q rfl (QO.idxArr0 Try.underlying114 ty3 (by rfl) (by rfl) (by rfl) (by omega)) ?_) | (refine RS.q rfl (QO.idxArrn Try.underlying114 ty3 (by rfl) (by rfl) (by rfl) (by omega)) ?_) | (refine RS.q rfl (QO.idxArr Try.underlying114 ty3 (by rfl) (by rfl) (by omega) (by omega)) ?_)
      first | (refine RS.q rfl (QO.load ty3 (by rfl) (by repeat (first | exact List.Mem.head _ | refine List.Mem.tail _ ?_)) (by rfl)) ?_) | (refine RS.q rfl (QO.loadO ty3 (by rfl) (by assumption)) ?_) | (refine RS.q rfl (QO.load ty3 (by rfl) (by repeat (first | exact List.Mem.head _ | refine List.Mem.tail _ ?_)) (by assumption)) ?_)
      first | (refine RS.q rfl (QO.idxArr0 Try.underlying114 ty3 (by rfl) (by rfl) (by rfl) (by omega)) ?_) | (refine RS.q rfl (QO.idxArrn Try.underlying114 ty3 (by rfl) (by rfl) (by rfl) (by omega)) ?_) | (refine RS.q rfl (QO.idxArr Try.underlying114 ty3 (by rfl) (by rfl) (by omega) (by omega)) ?_)
      first | (refine RS.q rfl (QO.load ty3 (by rfl) (by repeat (first | exact List.Mem.head _ | refine List.Mem.tail _ ?_)) (by rfl)) ?_) | (refine RS.q rfl (QO.loadO ty3 (by rfl) (by assumption)) ?_) | (refine RS.q rfl (QO.load ty3 (by rfl) (by repeat (first | exact List.Mem.head _ | refine List.Mem.tail _ ?_)) (by assumption)) ?_)
      first | (refine RS.q rfl (QO.idxArr0 Try.underlying114 ty3 (by rfl) (by rfl) (by rfl) (by omega)) ?_) | (refine RS.q rfl (QO.idxArrn Try.underlying114 ty3 (by rfl) (by rfl) (by rfl) (by omega)) ?_) | (refine RS.q rfl (QO.idxArr Try.underlying114 ty3 (by rfl) (by rfl) (by omega) (by omega)) ?_)
      first | (refine RS.q rfl (QO.load ty3 (by rfl) (by repeat (first | exact List.Mem.head _ | refine List.Mem.tail _ ?_)) (by rfl)) ?_) | (refine RS.q rfl (QO.loadO ty3 (by rfl) (by assumption)) ?_) | (refine RS.q rfl (QO.load ty3 (by rfl) (by repeat (first | exact List.Mem.head _ | refine List.Mem.tail _ ?_)) (by assumption)) ?_)
      refine RS.q rfl (QO.build ty49 pl49 (by rfl)) ?_
      first | refine RS.storeB ty49 (by rfl) (by rfl) (by rfl) (by rfl) (by rfl) (by repeat (first | exact Upd.head | apply Upd.tail)) (by rfl) ?_ | refine RS.storeP ty49 (by rfl) (by rfl) (by rfl) (by rfl) (by rfl) (by repeat (first | exact Upd.head | apply Upd.tail)) (by rfl) ?_
      refine RS.q rfl (QO.assign) ?_
      refine RS.nil ?_
      refine thenC_n ?_
      refine CS.ret ?_
      refine retQ.mk (H' := []) (.inr rfl) (RVs.cellA ty49 (by rfl) (by repeat (first | exact List.Mem.head _ | refine List.Mem.tail _ ?_)) (by rfl) (RVs.tmp (by rfl) RVs.nil)) (List.nil_sublist _) ?_
      have hkn : k = n := by omega
      subst hkn
      exact ⟨rfl, rfl⟩

end Go.Proofs.Ytapcgokcfmklbaa

namespace Go.Proofs.Ytapcgokcfmklbaa
open Go Go.Proofs Go.RowKit

theorem fo49_0 : fldOff Try.prog 49 0 = some (0, 3) := by kernel_rfl
theorem fo49_1 : fldOff Try.prog 49 1 = some (1, 3) := by kernel_rfl
theorem fo49_2 : fldOff Try.prog 49 2 = some (2, 3) := by kernel_rfl
theorem fo49_3 : fldOff Try.prog 49 3 = some (3, 3) := by kernel_rfl
theorem fo49_4 : fldOff Try.prog 49 4 = some (4, 3) := by kernel_rfl
theorem ok61 : callOK Try.prog 61 = true := by kernel_rfl

set_option maxRecDepth 100000 in
theorem abs_ (x : Nat) (W : World) : Fn_ Try.prog 61 #[flt x] W (fun v H => v = flt (abN x) ∧ H = []) := by
  refine Fn_.intro Try.func61 rfl rfl (by rfl) ?_
  refine CS.seq ?_
  refine CS.region ?_
  refine RS.q rfl (QO.assign) ?_
  refine RS.nil ?_
  refine thenC_n ?_
  refine CS.seq ?_
  refine CS.region ?_
  refine RS.q rfl (QO.move) ?_
  refine RS.q rfl (QO.ext (by rfl) (ext63 _)) ?_
  refine RS.q rfl (QO.ibin (by rfl) (by rfl) trivial) ?_
  refine RS.q rfl (QO.ext (by rfl) (ext113 _)) ?_
  refine RS.q rfl (QO.assign) ?_
  refine RS.nil ?_
  refine thenC_n ?_
  refine CS.ret ?_
  refine retQ.mk (H' := []) (.inr rfl) (RVs.tmp (by rfl) RVs.nil) (List.nil_sublist _) ?_
  exact ⟨rfl, rfl⟩

theorem kdR_4 {x : Nat} (h : nan32 x = true) : kdR x = 4 := if_pos h
theorem kdR_0 {x : Nat} (h : nan32 x = false) (h1 : fcmpB .eql x 0 = true) : kdR x = 0 := by unfold kdR; rw [if_neg (by rw [h]; decide), if_pos h1]
theorem kdR_3 {x : Nat} (h : nan32 x = false) (h1 : fcmpB .eql x 0 = false) (h2 : numB x = false) : kdR x = 3 := by unfold kdR; rw [if_neg (by rw [h]; decide), if_neg (by rw [h1]; decide), if_pos h2]
theorem kdR_1 {x : Nat} (h : nan32 x = false) (h1 : fcmpB .eql x 0 = false) (h2 : numB x = true) (h3 : fcmpB .lss (abN x) 8388608 = true) : kdR x = 1 := by unfold kdR; rw [if_neg (by rw [h]; decide), if_neg (by rw [h1]; decide), if_neg (by rw [h2]; decide), if_pos h3]
theorem kdR_2 {x : Nat} (h : nan32 x = false) (h1 : fcmpB .eql x 0 = false) (h2 : numB x = true) (h3 : fcmpB .lss (abN x) 8388608 = false) : kdR x = 2 := by unfold kdR; rw [if_neg (by rw [h]; decide), if_neg (by rw [h1]; decide), if_neg (by rw [h2]; decide), if_neg (by rw [h3]; decide)]
theorem cells5_up (g : Nat → Nat) {q r : Nat} (h : q < 5) (e : r = q) : (cells5 g).set q (iv ((g q + 1 : Nat) : Int)) = cells5 (upC g r) := by subst e; exact cells5_set g h

set_option maxHeartbeats 4000000 in
set_option maxRecDepth 100000 in
theorem rOdd (X Y : Int) (a b : Nat) (A : Option Addr) (n c : Nat) (xs : List Nat) (W : World) (hn : xs.length = n) (hA : FS W A xs) (hm : n ≤ 1000000) (hn0 : 0 < n) : Fn_ Try.prog 18 #[.agg #[iv X, iv Y, iv (a : Int), iv (b : Int), .slice A n c]] W (fun v H => v = .agg #[iv (cn (fun i => kdR (gd xs i)) n 0 : Int), iv (cn (fun i => kdR (gd xs i)) n 1 : Int), iv (cn (fun i => kdR (gd xs i)) n 2 : Int), iv (cn (fun i => kdR (gd xs i)) n 3 : Int), iv (cn (fun i => kdR (gd xs i)) n 4 : Int)] ∧ H = []) := by
  have hx0 := hA (by omega)
  obtain ⟨bS, oS, hAA, hcS⟩ := hx0
  subst hAA
  refine Fn_.intro Try.func18 rfl rfl (by rfl) ?_
  refine CS.seq ?_
  refine CS.region ?_
  refine RS.box rfl (by rfl) (by rfl) ?_
  intro g1
  refine RS.alloc rfl ty49 ?_
  intro g2
  refine RS.nil ?_
  refine thenC_n ?_
  refine CS.seq ?_
  refine CS.region ?_
  refine RS.alloc rfl ty49 ?_
  intro g3
  refine RS.nil ?_
  refine thenC_n ?_
  refine CS.seq ?_
  refine CS.seq ?_
  refine CS.region ?_
  refine RS.q rfl (QO.fieldAddr fo26_1 (by rfl)) ?_
  first | (refine RS.q rfl (QO.load ty24 (by rfl) (by repeat (first | exact List.Mem.head _ | refine List.Mem.tail _ ?_)) (by rfl)) ?_) | (refine RS.q rfl (QO.loadO ty24 (by rfl) (by assumption)) ?_) | (refine RS.q rfl (QO.load ty24 (by rfl) (by repeat (first | exact List.Mem.head _ | refine List.Mem.tail _ ?_)) (by assumption)) ?_)
  refine RS.q rfl (QO.lenS Try.underlying24 (by rfl)) ?_
  refine RS.q rfl (QO.move) ?_
  refine RS.nil ?_
  refine thenC_n ?_
  refine CS.block ?_
  refine CS.loop (X := Nat) (5 :: 9 :: 10 :: 11 :: 12 :: 13 :: 14 :: 15 :: 16 :: 17 :: 18 :: 19 :: 20 :: 21 :: 22 :: 23 :: 24 :: 25 :: 26 :: 27 :: 28 :: 29 :: 30 :: 31 :: 32 :: 33 :: 34 :: 35 :: 36 :: 37 :: 38 :: 39 :: 40 :: 41 :: 42 :: 43 :: 44 :: 45 :: 46 :: 47 :: 48 :: []) (fun k => [(9, iv (k : Int))]) (fun k => [⟨g3, 49, cells5 (cn (fun i => kdR (gd xs i)) k)⟩, ⟨g2, 49, [iv 0, iv 0, iv 0, iv 0, iv 0]⟩, ⟨g1, 26, [iv X, iv Y, iv (a : Int), iv (b : Int), .slice (some ⟨bS, oS, none⟩) n c]⟩]) (fun k => k ≤ n) (fun k => n - k) 0 (Nat.zero_le _) ?_ ?_ ?_
  · exact (by repeat (first | exact kn_nil | refine kn_cons (by rfl) ?_))
  · exact (by repeat (first | exact List.Sublist.refl _ | exact List.nil_sublist _ | refine List.Sublist.cons_cons _ ?_ | refine List.Sublist.cons _ ?_ | exact Sbp.refl | exact Sbp.nil | refine Sbp.cons (by repeat (first | exact Rem.head | apply Rem.tail)) ?_ | exact Sbp.app | refine Sbp.skip ?_ | exact List.sublist_append_left _ _ | exact List.sublist_append_right _ _))
  · intro k gj3 hz
    refine CS.seq ?_
    refine CS.region ?_
    refine RS.q rfl (QO.lss (by rfl) (by rfl)) ?_
    refine RS.nil ?_
    refine thenC_n ?_
    refine CS.seq ?_
    refine CS.cond (by rfl) (fun hb0 => ?_) (fun hb0 => ?_)
    · have hb0p := of_decide_eq_true hb0
      refine CS.skip ?_
      refine thenC_n ?_
      refine CS.seq ?_
      refine CS.block ?_
      refine CS.seq ?_
      refine CS.region ?_
      first | (refine RS.q rfl (QO.idx0 Try.underlying24 ty29 (by rfl) (by rfl) (by rfl) (by omega)) ?_) | (refine RS.q rfl (QO.idxn Try.underlying24 ty29 (by rfl) (by rfl) (by rfl) (by omega)) ?_) | (refine RS.q rfl (QO.idx1 Try.underlying24 ty29 (by rfl) (by rfl) (by omega) (by omega)) ?_)
      refine RS.q rfl (QO.loadO ty29 (by rfl) (hcS k _ (gd_at (show k < xs.length by omega)))) ?_
      refine RS.q rfl (QO.assign) ?_
      refine RS.nil ?_
      refine thenC_n ?_
      refine CS.block ?_
      refine CS.seq ?_
      refine CS.region ?_
      refine RS.q rfl (QO.move) ?_
      refine RS.q rfl (QO.move) ?_
      refine RS.qv rfl (QO.fcmp32 (by rfl) (by rfl) (by simp)) (congrArg Value.bool (fneq_self (gd xs k))) ?_
      refine RS.q rfl (QO.assign) ?_
      refine RS.nil ?_
      refine thenC_n ?_
      refine CS.cond (by rfl) (fun hb1 => ?_) (fun hb1 => ?_)
      · refine CS.region ?_
        have hkq : kdR (gd xs k) = 4 := kdR_4 hb1
        have hcn := cn_le (fun i => kdR (gd xs i)) k 4
        refine RS.q rfl (QO.fieldAddr fo49_4 (by rfl)) ?_
        refine RS.q rfl (QO.load ty3 (by rfl) (by repeat (first | exact List.Mem.head _ | refine List.Mem.tail _ ?_)) (cells5_at (cn (fun i => kdR (gd xs i)) k) (q := 4) (by omega))) ?_
        first | (refine RS.qv rfl (QO.add (by rfl) (by rfl) (by omega) (by omega)) (congrArg iv (show (((cn (fun i => kdR (gd xs i)) k) 4 : Nat) : Int) + 1 = (((cn (fun i => kdR (gd xs i)) k) 4 + 1 : Nat) : Int) by omega)) ?_) | (refine RS.qv rfl (QO.ibin (by rfl) (by rfl) trivial) (congrArg iv (show (((cn (fun i => kdR (gd xs i)) k) 4 : Nat) : Int) + 1 = (((cn (fun i => kdR (gd xs i)) k) 4 + 1 : Nat) : Int) by omega)) ?_)
        refine RS.q rfl (QO.fieldAddr fo49_4 (by rfl)) ?_
        refine RS.store1e ty3 rfl (by rfl) (by rfl) (by rfl) (cells5_up (cn (fun i => kdR (gd xs i)) k) (q := 4) (by omega) hkq) (by repeat (first | exact Upd.head | apply Upd.tail)) (by show 4 < 5; omega) ?_
        refine RS.nil ?_
        refine blockC_n ?_
        refine blockC_n ?_
        refine thenC_n ?_
        refine CS.region ?_
        first | (refine RS.q rfl (QO.add (by rfl) (by rfl) (by omega) (by omega)) ?_) | (refine RS.q rfl (QO.ibin (by rfl) (by rfl) trivial) ?_)
        refine RS.q rfl (QO.move) ?_
        refine RS.nil ?_
        refine loopQ_n (by intro t ht; repeat (first | with_reducible exact rfl | exact frame_puts ht (frame_mix ht) _ rfl | (refine frame_put rfl ht ?_) | (refine frame_puts ht ?_ _ rfl) | exact frame_mix ht | (refine frame_mix2 rfl ht ?_) | exact rfl)) ?_
        exact ⟨k + 1, by omega, by omega, (by repeat (first | exact kn_nil | refine kn_cons (by rfl) ?_)), (by repeat (first | exact List.Sublist.refl _ | exact List.nil_sublist _ | refine List.Sublist.cons_cons _ ?_ | refine List.Sublist.cons _ ?_ | exact Sbp.refl | exact Sbp.nil | refine Sbp.cons (by repeat (first | exact Rem.head | apply Rem.tail)) ?_ | exact Sbp.app | refine Sbp.skip ?_ | exact List.sublist_append_left _ _ | exact List.sublist_append_right _ _))⟩
      · refine CS.seq ?_
        refine CS.region ?_
        refine RS.q rfl (QO.move) ?_
        refine RS.q rfl (QO.fcmp32 (by rfl) (by rfl) (by simp)) ?_
        refine RS.q rfl (QO.assign) ?_
        refine RS.nil ?_
        refine thenC_n ?_
        refine CS.cond (by rfl) (fun hb2 => ?_) (fun hb2 => ?_)
        · refine CS.region ?_
          have hkq : kdR (gd xs k) = 0 := kdR_0 hb1 hb2
          have hcn := cn_le (fun i => kdR (gd xs i)) k 0
          refine RS.q rfl (QO.fieldAddr fo49_0 (by rfl)) ?_
          refine RS.q rfl (QO.load ty3 (by rfl) (by repeat (first | exact List.Mem.head _ | refine List.Mem.tail _ ?_)) (cells5_at (cn (fun i => kdR (gd xs i)) k) (q := 0) (by omega))) ?_
          first | (refine RS.qv rfl (QO.add (by rfl) (by rfl) (by omega) (by omega)) (congrArg iv (show (((cn (fun i => kdR (gd xs i)) k) 0 : Nat) : Int) + 1 = (((cn (fun i => kdR (gd xs i)) k) 0 + 1 : Nat) : Int) by omega)) ?_) | (refine RS.qv rfl (QO.ibin (by rfl) (by rfl) trivial) (congrArg iv (show (((cn (fun i => kdR (gd xs i)) k) 0 : Nat) : Int) + 1 = (((cn (fun i => kdR (gd xs i)) k) 0 + 1 : Nat) : Int) by omega)) ?_)
          refine RS.q rfl (QO.fieldAddr fo49_0 (by rfl)) ?_
          refine RS.store1e ty3 rfl (by rfl) (by rfl) (by rfl) (cells5_up (cn (fun i => kdR (gd xs i)) k) (q := 0) (by omega) hkq) (by repeat (first | exact Upd.head | apply Upd.tail)) (by show 0 < 5; omega) ?_
          refine RS.nil ?_
          refine blockC_n ?_
          refine blockC_n ?_
          refine thenC_n ?_
          refine CS.region ?_
          first | (refine RS.q rfl (QO.add (by rfl) (by rfl) (by omega) (by omega)) ?_) | (refine RS.q rfl (QO.ibin (by rfl) (by rfl) trivial) ?_)
          refine RS.q rfl (QO.move) ?_
          refine RS.nil ?_
          refine loopQ_n (by intro t ht; repeat (first | with_reducible exact rfl | exact frame_puts ht (frame_mix ht) _ rfl | (refine frame_put rfl ht ?_) | (refine frame_puts ht ?_ _ rfl) | exact frame_mix ht | (refine frame_mix2 rfl ht ?_) | exact rfl)) ?_
          exact ⟨k + 1, by omega, by omega, (by repeat (first | exact kn_nil | refine kn_cons (by rfl) ?_)), (by repeat (first | exact List.Sublist.refl _ | exact List.nil_sublist _ | refine List.Sublist.cons_cons _ ?_ | refine List.Sublist.cons _ ?_ | exact Sbp.refl | exact Sbp.nil | refine Sbp.cons (by repeat (first | exact Rem.head | apply Rem.tail)) ?_ | exact Sbp.app | refine Sbp.skip ?_ | exact List.sublist_append_left _ _ | exact List.sublist_append_right _ _))⟩
        · refine CS.seq ?_
          refine CS.region ?_
          refine RS.q rfl (QO.move) ?_
          refine RS.call rfl (by rfl) ok60 (by rfl) (fun w ho => risNumber (gd xs k) _) ?_
          rintro _ _ ⟨rfl, rfl⟩
          refine RS.q rfl (QO.not (by rfl)) ?_
          refine RS.q rfl (QO.assign) ?_
          refine RS.nil ?_
          refine thenC_n ?_
          refine CS.cond (by rfl) (fun hb3 => ?_) (fun hb3 => ?_)
          · have hb3p := Eq.mp (Bool.not_eq_true' _) hb3
            refine CS.region ?_
            have hkq : kdR (gd xs k) = 3 := kdR_3 hb1 hb2 hb3p
            have hcn := cn_le (fun i => kdR (gd xs i)) k 3
            refine RS.q rfl (QO.fieldAddr fo49_3 (by rfl)) ?_
            refine RS.q rfl (QO.load ty3 (by rfl) (by repeat (first | exact List.Mem.head _ | refine List.Mem.tail _ ?_)) (cells5_at (cn (fun i => kdR (gd xs i)) k) (q := 3) (by omega))) ?_
            first | (refine RS.qv rfl (QO.add (by rfl) (by rfl) (by omega) (by omega)) (congrArg iv (show (((cn (fun i => kdR (gd xs i)) k) 3 : Nat) : Int) + 1 = (((cn (fun i => kdR (gd xs i)) k) 3 + 1 : Nat) : Int) by omega)) ?_) | (refine RS.qv rfl (QO.ibin (by rfl) (by rfl) trivial) (congrArg iv (show (((cn (fun i => kdR (gd xs i)) k) 3 : Nat) : Int) + 1 = (((cn (fun i => kdR (gd xs i)) k) 3 + 1 : Nat) : Int) by omega)) ?_)
            refine RS.q rfl (QO.fieldAddr fo49_3 (by rfl)) ?_
            refine RS.store1e ty3 rfl (by rfl) (by rfl) (by rfl) (cells5_up (cn (fun i => kdR (gd xs i)) k) (q := 3) (by omega) hkq) (by repeat (first | exact Upd.head | apply Upd.tail)) (by show 3 < 5; omega) ?_
            refine RS.nil ?_
            refine blockC_n ?_
            refine blockC_n ?_
            refine thenC_n ?_
            refine CS.region ?_
            first | (refine RS.q rfl (QO.add (by rfl) (by rfl) (by omega) (by omega)) ?_) | (refine RS.q rfl (QO.ibin (by rfl) (by rfl) trivial) ?_)
            refine RS.q rfl (QO.move) ?_
            refine RS.nil ?_
            refine loopQ_n (by intro t ht; repeat (first | with_reducible exact rfl | exact frame_puts ht (frame_mix ht) _ rfl | (refine frame_put rfl ht ?_) | (refine frame_puts ht ?_ _ rfl) | exact frame_mix ht | (refine frame_mix2 rfl ht ?_) | exact rfl)) ?_
            exact ⟨k + 1, by omega, by omega, (by repeat (first | exact kn_nil | refine kn_cons (by rfl) ?_)), (by repeat (first | exact List.Sublist.refl _ | exact List.nil_sublist _ | refine List.Sublist.cons_cons _ ?_ | refine List.Sublist.cons _ ?_ | exact Sbp.refl | exact Sbp.nil | refine Sbp.cons (by repeat (first | exact Rem.head | apply Rem.tail)) ?_ | exact Sbp.app | refine Sbp.skip ?_ | exact List.sublist_append_left _ _ | exact List.sublist_append_right _ _))⟩
          · have hb3p := Eq.mp (Bool.not_eq_false' _) hb3
            refine CS.seq ?_
            refine CS.region ?_
            refine RS.q rfl (QO.move) ?_
            refine RS.call rfl (by rfl) ok61 (by rfl) (fun w ho => abs_ (gd xs k) _) ?_
            rintro _ _ ⟨rfl, rfl⟩
            refine RS.q rfl (QO.fcmp32 (by rfl) (by rfl) (by simp)) ?_
            refine RS.q rfl (QO.assign) ?_
            refine RS.nil ?_
            refine thenC_n ?_
            refine CS.cond (by rfl) (fun hb4 => ?_) (fun hb4 => ?_)
            · refine CS.region ?_
              have hkq : kdR (gd xs k) = 1 := kdR_1 hb1 hb2 hb3p hb4
              have hcn := cn_le (fun i => kdR (gd xs i)) k 1
              refine RS.q rfl (QO.fieldAddr fo49_1 (by rfl)) ?_
              refine RS.q rfl (QO.load ty3 (by rfl) (by repeat (first | exact List.Mem.head _ | refine List.Mem.tail _ ?_)) (cells5_at (cn (fun i => kdR (gd xs i)) k) (q := 1) (by omega))) ?_
              first | (refine RS.qv rfl (QO.add (by rfl) (by rfl) (by omega) (by omega)) (congrArg iv (show (((cn (fun i => kdR (gd xs i)) k) 1 : Nat) : Int) + 1 = (((cn (fun i => kdR (gd xs i)) k) 1 + 1 : Nat) : Int) by omega)) ?_) | (refine RS.qv rfl (QO.ibin (by rfl) (by rfl) trivial) (congrArg iv (show (((cn (fun i => kdR (gd xs i)) k) 1 : Nat) : Int) + 1 = (((cn (fun i => kdR (gd xs i)) k) 1 + 1 : Nat) : Int) by omega)) ?_)
              refine RS.q rfl (QO.fieldAddr fo49_1 (by rfl)) ?_
              refine RS.store1e ty3 rfl (by rfl) (by rfl) (by rfl) (cells5_up (cn (fun i => kdR (gd xs i)) k) (q := 1) (by omega) hkq) (by repeat (first | exact Upd.head | apply Upd.tail)) (by show 1 < 5; omega) ?_
              refine RS.nil ?_
              refine blockC_n ?_
              refine blockC_n ?_
              refine thenC_n ?_
              refine CS.region ?_
              first | (refine RS.q rfl (QO.add (by rfl) (by rfl) (by omega) (by omega)) ?_) | (refine RS.q rfl (QO.ibin (by rfl) (by rfl) trivial) ?_)
              refine RS.q rfl (QO.move) ?_
              refine RS.nil ?_
              refine loopQ_n (by intro t ht; repeat (first | with_reducible exact rfl | exact frame_puts ht (frame_mix ht) _ rfl | (refine frame_put rfl ht ?_) | (refine frame_puts ht ?_ _ rfl) | exact frame_mix ht | (refine frame_mix2 rfl ht ?_) | exact rfl)) ?_
              exact ⟨k + 1, by omega, by omega, (by repeat (first | exact kn_nil | refine kn_cons (by rfl) ?_)), (by repeat (first | exact List.Sublist.refl _ | exact List.nil_sublist _ | refine List.Sublist.cons_cons _ ?_ | refine List.Sublist.cons _ ?_ | exact Sbp.refl | exact Sbp.nil | refine Sbp.cons (by repeat (first | exact Rem.head | apply Rem.tail)) ?_ | exact Sbp.app | refine Sbp.skip ?_ | exact List.sublist_append_left _ _ | exact List.sublist_append_right _ _))⟩
            · refine CS.region ?_
              have hkq : kdR (gd xs k) = 2 := kdR_2 hb1 hb2 hb3p hb4
              have hcn := cn_le (fun i => kdR (gd xs i)) k 2
              refine RS.q rfl (QO.fieldAddr fo49_2 (by rfl)) ?_
              refine RS.q rfl (QO.load ty3 (by rfl) (by repeat (first | exact List.Mem.head _ | refine List.Mem.tail _ ?_)) (cells5_at (cn (fun i => kdR (gd xs i)) k) (q := 2) (by omega))) ?_
              first | (refine RS.qv rfl (QO.add (by rfl) (by rfl) (by omega) (by omega)) (congrArg iv (show (((cn (fun i => kdR (gd xs i)) k) 2 : Nat) : Int) + 1 = (((cn (fun i => kdR (gd xs i)) k) 2 + 1 : Nat) : Int) by omega)) ?_) | (refine RS.qv rfl (QO.ibin (by rfl) (by rfl) trivial) (congrArg iv (show (((cn (fun i => kdR (gd xs i)) k) 2 : Nat) : Int) + 1 = (((cn (fun i => kdR (gd xs i)) k) 2 + 1 : Nat) : Int) by omega)) ?_)
              refine RS.q rfl (QO.fieldAddr fo49_2 (by rfl)) ?_
              refine RS.store1e ty3 rfl (by rfl) (by rfl) (by rfl) (cells5_up (cn (fun i => kdR (gd xs i)) k) (q := 2) (by omega) hkq) (by repeat (first | exact Upd.head | apply Upd.tail)) (by show 2 < 5; omega) ?_
              refine RS.nil ?_
              refine blockC_n ?_
              refine blockC_n ?_
              refine thenC_n ?_
              refine CS.region ?_
              first | (refine RS.q rfl (QO.add (by rfl) (by rfl) (by omega) (by omega)) ?_) | (refine RS.q rfl (QO.ibin (by rfl) (by rfl) trivial) ?_)
              refine RS.q rfl (QO.move) ?_
              refine RS.nil ?_
              refine loopQ_n (by intro t ht; repeat (first | with_reducible exact rfl | exact frame_puts ht (frame_mix ht) _ rfl | (refine frame_put rfl ht ?_) | (refine frame_puts ht ?_ _ rfl) | exact frame_mix ht | (refine frame_mix2 rfl ht ?_) | exact rfl)) ?_
              exact ⟨k + 1, by omega, by omega, (by repeat (first | exact kn_nil | refine kn_cons (by rfl) ?_)), (by repeat (first | exact List.Sublist.refl _ | exact List.nil_sublist _ | refine List.Sublist.cons_cons _ ?_ | refine List.Sublist.cons _ ?_ | exact Sbp.refl | exact Sbp.nil | refine Sbp.cons (by repeat (first | exact Rem.head | apply Rem.tail)) ?_ | exact Sbp.app | refine Sbp.skip ?_ | exact List.sublist_append_left _ _ | exact List.sublist_append_right _ _))⟩
    · have hb0p := of_decide_eq_false hb0
      refine CS.exit ?_
      refine thenC_x ?_
      refine loopQ_x ?_
      refine blockC_x ?_
      refine thenC_n ?_
      refine CS.seq ?_
      refine CS.region ?_
      first | (refine RS.q rfl (QO.loadB ty49 (by rfl) (by repeat (first | exact List.Mem.head _ | refine List.Mem.tail _ ?_)) (by rfl)) ?_) | (refine RS.q rfl (QO.loadA ty49 (by rfl) (by repeat (first | exact List.Mem.head _ | refine List.Mem.tail _ ?_)) (by rfl) (by rfl)) ?_) | (refine RS.q rfl (QO.loadOA ty49 (by rfl) (by assumption) (by rfl)) ?_)
      first | refine RS.storeB ty49 (by rfl) (by rfl) (by rfl) (by rfl) (by rfl) (by repeat (first | exact Upd.head | apply Upd.tail)) (by rfl) ?_ | refine RS.storeP ty49 (by rfl) (by rfl) (by rfl) (by rfl) (by rfl) (by repeat (first | exact Upd.head | apply Upd.tail)) (by rfl) ?_
      refine RS.nil ?_
      refine thenC_n ?_
      refine CS.ret ?_
      refine retQ.mk (H' := []) (.inr rfl) (RVs.cellA ty49 (by rfl) (by repeat (first | exact List.Mem.head _ | refine List.Mem.tail _ ?_)) (by rfl) RVs.nil) (List.nil_sublist _) ?_
      have hkn : k = n := by omega
      subst hkn
      exact ⟨rfl, rfl⟩

end Go.Proofs.Ytapcgokcfmklbaa

namespace Go.Proofs.Ytapcgokcfmklbaa
open Go Go.RowKit

theorem and_exp (x : Nat) : x &&& 2139095040 = x / 2 ^ 23 % 2 ^ 8 * 2 ^ 23 := by
  apply Nat.eq_of_testBit_eq
  intro i
  have e : (2139095040 : Nat) = (2 ^ 8 - 1) * 2 ^ 23 := by decide
  rw [e, Nat.testBit_and, Nat.testBit_mul_two_pow, Nat.testBit_mul_two_pow, Nat.testBit_two_pow_sub_one, Nat.testBit_mod_two_pow, Nat.testBit_div_two_pow]
  by_cases h : 23 ≤ i
  · rw [decide_eq_true h, Nat.sub_add_cancel h]
    cases x.testBit i <;> simp
  · rw [decide_eq_false h]; simp
theorem anN_0 {x : Nat} (hx : x < 4294967296) (hn : nan32 x = false) : anN x = 0 ↔ x % 2147483648 < 8388608 := by
  unfold anN
  rw [cl_num hn]
  have e1 : (BitVec.ofInt IntKind.u32.bits (x : Int) &&& BitVec.ofInt IntKind.u32.bits 2139095040).toNat = x &&& 2139095040 := by
    rw [BitVec.toNat_and]
    have e2 : (BitVec.ofInt IntKind.u32.bits (x : Int)).toNat = x := by
      show (BitVec.ofInt 32 (x : Int)).toNat = x
      rw [BitVec.ofInt_natCast, BitVec.toNat_ofNat]
      exact Nat.mod_eq_of_lt hx
    have e3 : (BitVec.ofInt IntKind.u32.bits 2139095040).toNat = 2139095040 := by decide
    rw [e2, e3]
  rw [e1, and_exp]
  have c8 : (2 : Nat) ^ 8 = 256 := by decide
  have c23 : (2 : Nat) ^ 23 = 8388608 := by decide
  rw [c8, c23]
  have h3 : IntKind.u32.wrap ((x / 8388608 % 256 * 8388608 : Nat) : Int) = ((x / 8388608 % 256 * 8388608 : Nat) : Int) := by rw [IntKind.wrap_u32]; omega
  rw [h3]
  omega
theorem abN_v {x : Nat} (hx : x < 4294967296) : abN x = x % 2147483648 := by
  unfold abN
  have e1 : (BitVec.ofInt 32 (x : Int) &&& ~~~ BitVec.ofInt 32 2147483648).toNat = x % 2147483648 := by
    rw [BitVec.toNat_and]
    have e2 : (BitVec.ofInt 32 (x : Int)).toNat = x := by
      rw [BitVec.ofInt_natCast, BitVec.toNat_ofNat]
      exact Nat.mod_eq_of_lt hx
    have e3 : (~~~ BitVec.ofInt 32 2147483648).toNat = 2 ^ 31 - 1 := by decide
    rw [e2, e3, Nat.and_two_pow_sub_one_eq_mod]
  rw [e1]
  have h3 : IntKind.u32.wrap ((x % 2147483648 : Nat) : Int) = ((x % 2147483648 : Nat) : Int) := by rw [IntKind.wrap_u32]; omega
  rw [h3]; rfl
theorem read_low : Ieee.single.read 8388608 = .number false 8388608 (-149) := by decide +kernel
theorem lss_low {a : Nat} (h : a < 2139095040) : fcmpB .lss a 8388608 = decide (a < 8388608) := by
  obtain ⟨s, h1, h2⟩ := read_form a
  have hs : s = false := by rw [h2, Nat.div_eq_of_lt (by omega)]; rfl
  subst hs
  rw [Nat.mod_eq_of_lt (by omega)] at h1
  unfold fcmpB Ieee.Format.order
  rw [h1, read_low]
  by_cases hl : a < 8388608
  · rw [if_pos hl, decide_eq_true hl]
    have e : compare (Ieee.signed false a 0) (Ieee.signed false 8388608 0) = .lt := Int.compare_eq_lt.2 (by unfold Ieee.signed; simp; omega)
    show (some (compare (Ieee.signed false a 0) (Ieee.signed false 8388608 0)) == some .lt) = true
    rw [e]; rfl
  · rw [if_neg hl, if_pos h, decide_eq_false hl]
    obtain ⟨k, hk⟩ : ∃ k, a / 8388608 - 1 = k := ⟨_, rfl⟩
    rw [hk]
    have e0 : min (-149 + (k : Int)) (-149) = -149 := by omega
    simp only [Ieee.Datum.order, e0]
    have e1 : (-149 + (k : Int) - -149).toNat = k := by omega
    have e2 : ((-149 : Int) - -149).toNat = 0 := by omega
    rw [e1, e2]
    have h3 : 8388608 ≤ (8388608 + a % 8388608) <<< k := by
      rw [Nat.shiftLeft_eq]
      exact Nat.le_trans (Nat.le_add_right ..) (Nat.le_mul_of_pos_right _ (Nat.two_pow_pos k))
    have h4 : compare (Ieee.signed false (8388608 + a % 8388608) k) (Ieee.signed false 8388608 0) ≠ .lt := fun hc => by
      rw [Int.compare_eq_lt] at hc
      unfold Ieee.signed at hc
      simp only [Bool.false_eq_true, if_false, Nat.shiftLeft_zero] at hc
      omega
    cases hc : compare (Ieee.signed false (8388608 + a % 8388608) k) (Ieee.signed false 8388608 0)
    · exact absurd hc h4
    · rfl
    · rfl
theorem num_lt {x : Nat} (h : numB x = true) : x % 2147483648 < 2139095040 := by
  obtain ⟨s, h1, _⟩ := read_form x
  unfold numB at h
  rw [h1] at h
  split at h
  · rename_i s2 m p e
    split at e
    · omega
    · split at e
      · omega
      · split at e <;> cases e
  · cases h
theorem kd_eq {x : Nat} (hx : x < 4294967296) : kdP x = kdR x := by
  cases hn : nan32 x
  · cases h0 : fcmpB .eql x 0
    · cases hb : numB x
      · rw [kdR_3 hn h0 hb]
        unfold kdP
        rw [hn, h0, inf_inf hb hn]; rfl
      · have h1 := anN_0 hx hn
        have h3 := abN_v hx
        have h4 := lss_low (num_lt hb)
        by_cases h2 : x % 2147483648 < 8388608
        · rw [kdR_1 hn h0 hb (by rw [h3, h4, decide_eq_true h2])]
          unfold kdP
          rw [hn, h0, (inf_num hb).1, (inf_num hb).2, if_pos (h1.2 h2)]; rfl
        · rw [kdR_2 hn h0 hb (by rw [h3, h4, decide_eq_false h2])]
          unfold kdP
          rw [hn, h0, (inf_num hb).1, (inf_num hb).2, if_neg (fun h => h2 (h1.1 h))]; rfl
    · rw [kdR_0 hn h0]
      unfold kdP
      rw [hn, h0]; rfl
  · rw [kdR_4 hn]
    unfold kdP
    rw [hn]; rfl
theorem cn_congr {f g : Nat → Nat} : ∀ k, (∀ i, i < k → f i = g i) → cn f k = cn g k
  | 0, _ => rfl
  | k + 1, h => by
    show upC (cn f k) (f k) = upC (cn g k) (g k)
    rw [cn_congr k (fun i hi => h i (by omega)), h k (by omega)]
end Go.Proofs.Ytapcgokcfmklbaa

namespace Go.Proofs.Ytapcgokcfmklbaa
open Go Go.Proofs Go.RowKit



set_option maxHeartbeats 4000000 in
set_option maxRecDepth 100000 in
theorem pExtBad (X Y : Int) (a b : Nat) (A : Option Addr) (n c : Nat) (xs : List Nat) (ch : Int) (W : World) (hn : xs.length = n) (hA : FS W A xs) (hfr : frErr X Y (a : Int) (b : Int) n = 0) (hch : ¬ (0 ≤ ch ∧ ch ≤ 4)) : Fn_ Try.prog 15 #[.agg #[iv X, iv Y, iv (a : Int), iv (b : Int), .slice A n c], iv ch] W (fun v H => v = .tuple #[.agg #[flt 0, flt 0, flt 0, iv 0], iv 3] ∧ H = []) := by
  refine Fn_.intro Try.func15 rfl rfl (by rfl) ?_
  refine CS.seq ?_
  refine CS.region ?_
  refine RS.box rfl (by rfl) (by rfl) ?_
  intro g2
  refine RS.alloc rfl ty44 ?_
  intro g4
  refine RS.q rfl (QO.assign) ?_
  refine RS.nil ?_
  refine thenC_n ?_
  refine CS.seq ?_
  refine CS.region ?_
  first | (refine RS.q rfl (QO.loadB ty26 (by rfl) (by repeat (first | exact List.Mem.head _ | refine List.Mem.tail _ ?_)) (by rfl)) ?_) | (refine RS.q rfl (QO.loadA ty26 (by rfl) (by repeat (first | exact List.Mem.head _ | refine List.Mem.tail _ ?_)) (by rfl) (by rfl)) ?_) | (refine RS.q rfl (QO.loadOA ty26 (by rfl) (by assumption) (by rfl)) ?_)
  refine RS.q rfl (QO.move) ?_
  refine RS.call rfl (by rfl) ok50 (by rfl) (fun w ho => valsBad X Y a b A n c xs ch _ hn (hA.own ho) hfr hch) ?_
  rintro _ _ ⟨rfl, rfl⟩
  refine RS.q rfl (QO.move) ?_
  refine RS.q rfl (QO.extract (by rfl) (by rfl)) ?_
  refine RS.q rfl (QO.extract (by rfl) (by rfl)) ?_
  refine RS.q rfl (QO.assign) ?_
  refine RS.q rfl (QO.assign) ?_
  refine RS.nil ?_
  refine thenC_n ?_
  refine CS.seq ?_
  refine CS.seq ?_
  refine CS.region ?_
  refine RS.q rfl (QO.move) ?_
  refine RS.q rfl (QO.neq (by rfl) (by rfl)) ?_
  refine RS.nil ?_
  refine thenC_n ?_
  refine CS.condT (by rfl) rfl ?_
  refine CS.seq ?_
  refine CS.region ?_
  refine RS.q rfl (QO.build ty44 pl44 (by rfl)) ?_
  refine RS.q rfl (QO.move) ?_
  first | refine RS.storeB ty44 (by rfl) (by rfl) (by rfl) (by rfl) (by rfl) (by repeat (first | exact Upd.head | apply Upd.tail)) (by rfl) ?_ | refine RS.storeP ty44 (by rfl) (by rfl) (by rfl) (by rfl) (by rfl) (by repeat (first | exact Upd.head | apply Upd.tail)) (by rfl) ?_
  refine RS.q rfl (QO.assign) ?_
  refine RS.nil ?_
  refine thenC_n ?_
  refine CS.ret ?_
  refine thenC_r ?_
  refine retQ.mk (H' := []) (.inr rfl) (RVs.cellA ty44 (by rfl) (by repeat (first | exact List.Mem.head _ | refine List.Mem.tail _ ?_)) (by rfl) (RVs.tmp (by rfl) RVs.nil)) (List.nil_sublist _) ?_
  exact ⟨rfl, rfl⟩

set_option maxHeartbeats 4000000 in
set_option maxRecDepth 100000 in
theorem pRankCh (X Y : Int) (a b : Nat) (A : Option Addr) (n c : Nat) (xs : List Nat) (ch : Int) (W : World) (hn : xs.length = n) (hA : FS W A xs) (hfr : frErr X Y (a : Int) (b : Int) n = 0) (p : Int) (hch : ¬ (0 ≤ ch ∧ ch ≤ 4)) : Fn_ Try.prog 16 #[.agg #[iv X, iv Y, iv (a : Int), iv (b : Int), .slice A n c], iv ch, iv p] W (fun v H => v = .tuple #[flt 0, iv 3] ∧ H = []) := by
  refine Fn_.intro Try.func16 rfl rfl (by rfl) ?_
  refine CS.seq ?_
  refine CS.region ?_
  refine RS.box rfl (by rfl) (by rfl) ?_
  intro g3
  refine RS.q rfl (QO.assign) ?_
  refine RS.q rfl (QO.assign) ?_
  refine RS.nil ?_
  refine thenC_n ?_
  refine CS.seq ?_
  refine CS.region ?_
  first | (refine RS.q rfl (QO.loadB ty26 (by rfl) (by repeat (first | exact List.Mem.head _ | refine List.Mem.tail _ ?_)) (by rfl)) ?_) | (refine RS.q rfl (QO.loadA ty26 (by rfl) (by repeat (first | exact List.Mem.head _ | refine List.Mem.tail _ ?_)) (by rfl) (by rfl)) ?_) | (refine RS.q rfl (QO.loadOA ty26 (by rfl) (by assumption) (by rfl)) ?_)
  refine RS.q rfl (QO.move) ?_
  refine RS.call rfl (by rfl) ok50 (by rfl) (fun w ho => valsBad X Y a b A n c xs ch _ hn (hA.own ho) hfr hch) ?_
  rintro _ _ ⟨rfl, rfl⟩
  refine RS.q rfl (QO.move) ?_
  refine RS.q rfl (QO.extract (by rfl) (by rfl)) ?_
  refine RS.q rfl (QO.extract (by rfl) (by rfl)) ?_
  refine RS.q rfl (QO.assign) ?_
  refine RS.q rfl (QO.assign) ?_
  refine RS.nil ?_
  refine thenC_n ?_
  refine CS.seq ?_
  refine CS.seq ?_
  refine CS.region ?_
  refine RS.q rfl (QO.move) ?_
  refine RS.q rfl (QO.neq (by rfl) (by rfl)) ?_
  refine RS.nil ?_
  refine thenC_n ?_
  refine CS.condT (by rfl) rfl ?_
  refine CS.seq ?_
  refine CS.region ?_
  refine RS.q rfl (QO.move) ?_
  refine RS.q rfl (QO.assign) ?_
  refine RS.q rfl (QO.assign) ?_
  refine RS.nil ?_
  refine thenC_n ?_
  refine CS.ret ?_
  refine thenC_r ?_
  refine retQ.mk (H' := []) (.inr rfl) (RVs.tmp (by rfl) (RVs.tmp (by rfl) RVs.nil)) (List.nil_sublist _) ?_
  exact ⟨rfl, rfl⟩

set_option maxHeartbeats 4000000 in
set_option maxRecDepth 100000 in
theorem pRankN (X Y : Int) (a b : Nat) (A : Option Addr) (n c : Nat) (xs : List Nat) (ch : Int) (W : World) (hn : xs.length = n) (hA : FS W A xs) (hfr : frErr X Y (a : Int) (b : Int) n = 0) (hN : n = 4 * (a * b)) (hc : n ≤ c) (hcm : c ≤ maxLen) (ha : 1 ≤ a ∧ a ≤ 256) (hb : 1 ≤ b ∧ b ≤ 256) (h32 : ∀ x ∈ xs, x < 4294967296) (h0 : 0 ≤ ch) (h4 : ch ≤ 4) (p : Int) (hp : p < 0) : Fn_ Try.prog 16 #[.agg #[iv X, iv Y, iv (a : Int), iv (b : Int), .slice A n c], iv ch, iv p] W (fun v H => v = .tuple #[flt 0, iv 3] ∧ H = []) := by
  refine Fn_.intro Try.func16 rfl rfl (by rfl) ?_
  refine CS.seq ?_
  refine CS.region ?_
  refine RS.box rfl (by rfl) (by rfl) ?_
  intro g3
  refine RS.q rfl (QO.assign) ?_
  refine RS.q rfl (QO.assign) ?_
  refine RS.nil ?_
  refine thenC_n ?_
  refine CS.seq ?_
  refine CS.region ?_
  first | (refine RS.q rfl (QO.loadB ty26 (by rfl) (by repeat (first | exact List.Mem.head _ | refine List.Mem.tail _ ?_)) (by rfl)) ?_) | (refine RS.q rfl (QO.loadA ty26 (by rfl) (by repeat (first | exact List.Mem.head _ | refine List.Mem.tail _ ?_)) (by rfl) (by rfl)) ?_) | (refine RS.q rfl (QO.loadOA ty26 (by rfl) (by assumption) (by rfl)) ?_)
  refine RS.q rfl (QO.move) ?_
  refine RS.call rfl (by rfl) ok50 (by rfl) (fun w ho => vals_ X Y a b A n c xs ch _ hn (hA.own ho) hfr hN hc hcm ha hb h0 h4) ?_
  rintro _ _ ⟨gv, rfl, rfl⟩
  refine RS.q rfl (QO.move) ?_
  refine RS.q rfl (QO.extract (by rfl) (by rfl)) ?_
  refine RS.q rfl (QO.extract (by rfl) (by rfl)) ?_
  refine RS.q rfl (QO.assign) ?_
  refine RS.q rfl (QO.assign) ?_
  refine RS.nil ?_
  refine thenC_n ?_
  refine CS.seq ?_
  refine CS.seq ?_
  refine CS.region ?_
  refine RS.q rfl (QO.move) ?_
  refine RS.q rfl (QO.neq (by rfl) (by rfl)) ?_
  refine RS.nil ?_
  refine thenC_n ?_
  refine CS.condF (by rfl) rfl ?_
  refine CS.skip ?_
  refine thenC_n ?_
  refine CS.seq ?_
  refine CS.seq ?_
  refine CS.region ?_
  refine RS.q rfl (QO.move) ?_
  refine RS.q rfl (QO.lss (by rfl) (by rfl)) ?_
  refine RS.q rfl (QO.move) ?_
  refine RS.off (dj := 21) rfl (.inl (congrArg Value.bool (decide_eq_true hp))) (fun _ => rfl) rfl ?_
  refine RS.off (dj := 21) rfl (.inl (congrArg Value.bool (decide_eq_true hp))) (fun _ => rfl) rfl ?_
  refine RS.q rfl (QO.pickT (by rfl) (decide_eq_true hp) (by rfl)) ?_
  refine RS.nil ?_
  refine thenC_n ?_
  refine CS.condT (by rfl) rfl ?_
  refine CS.seq ?_
  refine CS.region ?_
  refine RS.q rfl (QO.assign) ?_
  refine RS.q rfl (QO.assign) ?_
  refine RS.nil ?_
  refine thenC_n ?_
  refine CS.ret ?_
  refine thenC_r ?_
  refine retQ.mk (H' := []) (.inr rfl) (RVs.tmp (by rfl) (RVs.tmp (by rfl) RVs.nil)) (List.nil_sublist _) ?_
  exact ⟨rfl, rfl⟩

set_option maxHeartbeats 4000000 in
set_option maxRecDepth 100000 in
theorem rRankN (X Y : Int) (a b : Nat) (A : Option Addr) (n c : Nat) (xs : List Nat) (ch : Int) (W : World) (hn : xs.length = n) (hA : FS W A xs) (hfr : frErr X Y (a : Int) (b : Int) n = 0) (p : Int) (hp : p < 0) : Fn_ Try.prog 22 #[.agg #[iv X, iv Y, iv (a : Int), iv (b : Int), .slice A n c], iv ch, iv p] W (fun v H => v = .tuple #[flt 0, iv 3] ∧ H = []) := by
  refine Fn_.intro Try.func22 rfl rfl (by rfl) ?_
  refine CS.seq ?_
  refine CS.region ?_
  refine RS.box rfl (by rfl) (by rfl) ?_
  intro g3
  refine RS.q rfl (QO.assign) ?_
  refine RS.q rfl (QO.assign) ?_
  refine RS.nil ?_
  refine thenC_n ?_
  refine CS.seq ?_
  refine CS.seq ?_
  refine CS.region ?_
  refine RS.q rfl (QO.move) ?_
  refine RS.q rfl (QO.lss (by rfl) (by rfl)) ?_
  refine RS.q rfl (QO.move) ?_
  refine RS.off (dj := 11) rfl (.inl (congrArg Value.bool (decide_eq_true hp))) (fun _ => rfl) rfl ?_
  refine RS.off (dj := 11) rfl (.inl (congrArg Value.bool (decide_eq_true hp))) (fun _ => rfl) rfl ?_
  refine RS.q rfl (QO.pickT (by rfl) (decide_eq_true hp) (by rfl)) ?_
  refine RS.nil ?_
  refine thenC_n ?_
  refine CS.condT (by rfl) rfl ?_
  refine CS.seq ?_
  refine CS.region ?_
  refine RS.q rfl (QO.assign) ?_
  refine RS.q rfl (QO.assign) ?_
  refine RS.nil ?_
  refine thenC_n ?_
  refine CS.ret ?_
  refine thenC_r ?_
  refine retQ.mk (H' := []) (.inr rfl) (RVs.tmp (by rfl) (RVs.tmp (by rfl) RVs.nil)) (List.nil_sublist _) ?_
  exact ⟨rfl, rfl⟩

set_option maxHeartbeats 4000000 in
set_option maxRecDepth 100000 in
theorem pRankB (X Y : Int) (a b : Nat) (A : Option Addr) (n c : Nat) (xs : List Nat) (ch : Int) (W : World) (hn : xs.length = n) (hA : FS W A xs) (hfr : frErr X Y (a : Int) (b : Int) n = 0) (hN : n = 4 * (a * b)) (hc : n ≤ c) (hcm : c ≤ maxLen) (ha : 1 ≤ a ∧ a ≤ 256) (hb : 1 ≤ b ∧ b ≤ 256) (h32 : ∀ x ∈ xs, x < 4294967296) (h0 : 0 ≤ ch) (h4 : ch ≤ 4) (p : Int) (hp : 100 < p) : Fn_ Try.prog 16 #[.agg #[iv X, iv Y, iv (a : Int), iv (b : Int), .slice A n c], iv ch, iv p] W (fun v H => v = .tuple #[flt 0, iv 3] ∧ H = []) := by
  refine Fn_.intro Try.func16 rfl rfl (by rfl) ?_
  refine CS.seq ?_
  refine CS.region ?_
  refine RS.box rfl (by rfl) (by rfl) ?_
  intro g3
  refine RS.q rfl (QO.assign) ?_
  refine RS.q rfl (QO.assign) ?_
  refine RS.nil ?_
  refine thenC_n ?_
  refine CS.seq ?_
  refine CS.region ?_
  first | (refine RS.q rfl (QO.loadB ty26 (by rfl) (by repeat (first | exact List.Mem.head _ | refine List.Mem.tail _ ?_)) (by rfl)) ?_) | (refine RS.q rfl (QO.loadA ty26 (by rfl) (by repeat (first | exact List.Mem.head _ | refine List.Mem.tail _ ?_)) (by rfl) (by rfl)) ?_) | (refine RS.q rfl (QO.loadOA ty26 (by rfl) (by assumption) (by rfl)) ?_)
  refine RS.q rfl (QO.move) ?_
  refine RS.call rfl (by rfl) ok50 (by rfl) (fun w ho => vals_ X Y a b A n c xs ch _ hn (hA.own ho) hfr hN hc hcm ha hb h0 h4) ?_
  rintro _ _ ⟨gv, rfl, rfl⟩
  refine RS.q rfl (QO.move) ?_
  refine RS.q rfl (QO.extract (by rfl) (by rfl)) ?_
  refine RS.q rfl (QO.extract (by rfl) (by rfl)) ?_
  refine RS.q rfl (QO.assign) ?_
  refine RS.q rfl (QO.assign) ?_
  refine RS.nil ?_
  refine thenC_n ?_
  refine CS.seq ?_
  refine CS.seq ?_
  refine CS.region ?_
  refine RS.q rfl (QO.move) ?_
  refine RS.q rfl (QO.neq (by rfl) (by rfl)) ?_
  refine RS.nil ?_
  refine thenC_n ?_
  refine CS.condF (by rfl) rfl ?_
  refine CS.skip ?_
  refine thenC_n ?_
  refine CS.seq ?_
  refine CS.seq ?_
  refine CS.region ?_
  refine RS.q rfl (QO.move) ?_
  refine RS.q rfl (QO.lss (by rfl) (by rfl)) ?_
  refine RS.q rfl (QO.move) ?_
  refine RS.on (dj := 21) rfl (congrArg Value.bool (decide_eq_false (by omega))) ?_
  refine RS.q rfl (QO.move) ?_
  refine RS.on (dj := 21) rfl (congrArg Value.bool (decide_eq_false (by omega))) ?_
  refine RS.q rfl (QO.gtr (by rfl) (by rfl)) ?_
  refine RS.q rfl (QO.pickF (by rfl) (decide_eq_false (by omega)) (by rfl)) ?_
  refine RS.nil ?_
  refine thenC_n ?_
  refine CS.condT (by rfl) (decide_eq_true hp) ?_
  refine CS.seq ?_
  refine CS.region ?_
  refine RS.q rfl (QO.assign) ?_
  refine RS.q rfl (QO.assign) ?_
  refine RS.nil ?_
  refine thenC_n ?_
  refine CS.ret ?_
  refine thenC_r ?_
  refine retQ.mk (H' := []) (.inr rfl) (RVs.tmp (by rfl) (RVs.tmp (by rfl) RVs.nil)) (List.nil_sublist _) ?_
  exact ⟨rfl, rfl⟩

set_option maxHeartbeats 4000000 in
set_option maxRecDepth 100000 in
theorem rRankB (X Y : Int) (a b : Nat) (A : Option Addr) (n c : Nat) (xs : List Nat) (ch : Int) (W : World) (hn : xs.length = n) (hA : FS W A xs) (hfr : frErr X Y (a : Int) (b : Int) n = 0) (p : Int) (hp : 100 < p) : Fn_ Try.prog 22 #[.agg #[iv X, iv Y, iv (a : Int), iv (b : Int), .slice A n c], iv ch, iv p] W (fun v H => v = .tuple #[flt 0, iv 3] ∧ H = []) := by
  refine Fn_.intro Try.func22 rfl rfl (by rfl) ?_
  refine CS.seq ?_
  refine CS.region ?_
  refine RS.box rfl (by rfl) (by rfl) ?_
  intro g3
  refine RS.q rfl (QO.assign) ?_
  refine RS.q rfl (QO.assign) ?_
  refine RS.nil ?_
  refine thenC_n ?_
  refine CS.seq ?_
  refine CS.seq ?_
  refine CS.region ?_
  refine RS.q rfl (QO.move) ?_
  refine RS.q rfl (QO.lss (by rfl) (by rfl)) ?_
  refine RS.q rfl (QO.move) ?_
  refine RS.on (dj := 11) rfl (congrArg Value.bool (decide_eq_false (by omega))) ?_
  refine RS.q rfl (QO.move) ?_
  refine RS.on (dj := 11) rfl (congrArg Value.bool (decide_eq_false (by omega))) ?_
  refine RS.q rfl (QO.gtr (by rfl) (by rfl)) ?_
  refine RS.q rfl (QO.pickF (by rfl) (decide_eq_false (by omega)) (by rfl)) ?_
  refine RS.nil ?_
  refine thenC_n ?_
  refine CS.condT (by rfl) (decide_eq_true hp) ?_
  refine CS.seq ?_
  refine CS.region ?_
  refine RS.q rfl (QO.assign) ?_
  refine RS.q rfl (QO.assign) ?_
  refine RS.nil ?_
  refine thenC_n ?_
  refine CS.ret ?_
  refine thenC_r ?_
  refine retQ.mk (H' := []) (.inr rfl) (RVs.tmp (by rfl) (RVs.tmp (by rfl) RVs.nil)) (List.nil_sublist _) ?_
  exact ⟨rfl, rfl⟩

theorem whenC (is : Bool) (e : Int) (r : Bool) (W : World) (h : is = r) : Fn_ Try.prog 62 #[.bool is, iv e] W (fun v H => v = iv (if r then e else 0) ∧ H = []) := by subst h; exact when is e W

set_option maxRecDepth 100000 in
theorem chOk (ch : Int) (W : World) (h0 : 0 ≤ ch) (h4 : ch ≤ 4) : Fn_ Try.prog 19 #[iv ch] W (fun v H => v = iv 0 ∧ H = []) := by
  refine Fn_.intro Try.func19 rfl rfl (by rfl) ?_
  refine CS.seq ?_
  refine CS.region ?_
  refine RS.q rfl (QO.assign) ?_
  refine RS.nil ?_
  refine thenC_n ?_
  refine CS.seq ?_
  refine CS.region ?_
  refine RS.q rfl (QO.move) ?_
  refine RS.q rfl (QO.lss (by rfl) (by rfl)) ?_
  refine RS.q rfl (QO.move) ?_
  refine RS.on (dj := 5) rfl (congrArg Value.bool (decide_eq_false (by omega))) ?_
  refine RS.q rfl (QO.move) ?_
  refine RS.on (dj := 5) rfl (congrArg Value.bool (decide_eq_false (by omega))) ?_
  refine RS.q rfl (QO.gtr (by rfl) (by rfl)) ?_
  refine RS.q rfl (QO.pickF (by rfl) (decide_eq_false (by omega)) (by rfl)) ?_
  refine RS.call rfl (by rfl) ok62 (by rfl) (fun w ho => whenC _ 3 false _ (decide_eq_false (by omega))) ?_
  rintro _ _ ⟨rfl, rfl⟩
  refine RS.q rfl (QO.assign) ?_
  refine RS.nil ?_
  refine thenC_n ?_
  refine CS.ret ?_
  refine retQ.mk (H' := []) (.inr rfl) (RVs.tmp (by rfl) RVs.nil) (List.nil_sublist _) ?_
  exact ⟨rfl, rfl⟩

set_option maxRecDepth 100000 in
theorem chLow (ch : Int) (W : World) (h0 : ch < 0) : Fn_ Try.prog 19 #[iv ch] W (fun v H => v = iv 3 ∧ H = []) := by
  refine Fn_.intro Try.func19 rfl rfl (by rfl) ?_
  refine CS.seq ?_
  refine CS.region ?_
  refine RS.q rfl (QO.assign) ?_
  refine RS.nil ?_
  refine thenC_n ?_
  refine CS.seq ?_
  refine CS.region ?_
  refine RS.q rfl (QO.move) ?_
  refine RS.q rfl (QO.lss (by rfl) (by rfl)) ?_
  refine RS.q rfl (QO.move) ?_
  refine RS.off (dj := 5) rfl (.inl (congrArg Value.bool (decide_eq_true h0))) (fun _ => rfl) rfl ?_
  refine RS.off (dj := 5) rfl (.inl (congrArg Value.bool (decide_eq_true h0))) (fun _ => rfl) rfl ?_
  refine RS.q rfl (QO.pickT (by rfl) (decide_eq_true h0) (by rfl)) ?_
  refine RS.call rfl (by rfl) ok62 (by rfl) (fun w ho => when true 3 _) ?_
  rintro _ _ ⟨rfl, rfl⟩
  refine RS.q rfl (QO.assign) ?_
  refine RS.nil ?_
  refine thenC_n ?_
  refine CS.ret ?_
  refine retQ.mk (H' := []) (.inr rfl) (RVs.tmp (by rfl) RVs.nil) (List.nil_sublist _) ?_
  exact ⟨rfl, rfl⟩

set_option maxRecDepth 100000 in
theorem chHigh (ch : Int) (W : World) (h4 : 4 < ch) : Fn_ Try.prog 19 #[iv ch] W (fun v H => v = iv 3 ∧ H = []) := by
  refine Fn_.intro Try.func19 rfl rfl (by rfl) ?_
  refine CS.seq ?_
  refine CS.region ?_
  refine RS.q rfl (QO.assign) ?_
  refine RS.nil ?_
  refine thenC_n ?_
  refine CS.seq ?_
  refine CS.region ?_
  refine RS.q rfl (QO.move) ?_
  refine RS.q rfl (QO.lss (by rfl) (by rfl)) ?_
  refine RS.q rfl (QO.move) ?_
  refine RS.on (dj := 5) rfl (congrArg Value.bool (decide_eq_false (by omega))) ?_
  refine RS.q rfl (QO.move) ?_
  refine RS.on (dj := 5) rfl (congrArg Value.bool (decide_eq_false (by omega))) ?_
  refine RS.q rfl (QO.gtr (by rfl) (by rfl)) ?_
  refine RS.q rfl (QO.pickF (by rfl) (decide_eq_false (by omega)) (by rfl)) ?_
  refine RS.call rfl (by rfl) ok62 (by rfl) (fun w ho => whenC _ 3 true _ (decide_eq_true h4)) ?_
  rintro _ _ ⟨rfl, rfl⟩
  refine RS.q rfl (QO.assign) ?_
  refine RS.nil ?_
  refine thenC_n ?_
  refine CS.ret ?_
  refine retQ.mk (H' := []) (.inr rfl) (RVs.tmp (by rfl) RVs.nil) (List.nil_sublist _) ?_
  exact ⟨rfl, rfl⟩

theorem chBad (ch : Int) (W : World) (h : ¬ (0 ≤ ch ∧ ch ≤ 4)) : Fn_ Try.prog 19 #[iv ch] W (fun v H => v = iv 3 ∧ H = []) := by
  by_cases h0 : ch < 0
  · exact chLow ch W h0
  · exact chHigh ch W (by omega)
theorem pRankPt (X Y : Int) (a b : Nat) (A : Option Addr) (n c : Nat) (xs : List Nat) (ch : Int) (W : World) (hn : xs.length = n) (hA : FS W A xs) (hfr : frErr X Y (a : Int) (b : Int) n = 0) (hN : n = 4 * (a * b)) (hc : n ≤ c) (hcm : c ≤ maxLen) (ha : 1 ≤ a ∧ a ≤ 256) (hb : 1 ≤ b ∧ b ≤ 256) (h32 : ∀ x ∈ xs, x < 4294967296) (h0 : 0 ≤ ch) (h4 : ch ≤ 4) (p : Int) (hp : ¬ (0 ≤ p ∧ p ≤ 100)) : Fn_ Try.prog 16 #[.agg #[iv X, iv Y, iv (a : Int), iv (b : Int), .slice A n c], iv ch, iv p] W (fun v H => v = .tuple #[flt 0, iv 3] ∧ H = []) := by
  by_cases h : p < 0
  · exact pRankN X Y a b A n c xs ch W hn hA hfr hN hc hcm ha hb h32 h0 h4 p h
  · exact pRankB X Y a b A n c xs ch W hn hA hfr hN hc hcm ha hb h32 h0 h4 p (by omega)
theorem rRankPt (X Y : Int) (a b : Nat) (A : Option Addr) (n c : Nat) (xs : List Nat) (ch : Int) (W : World) (hn : xs.length = n) (hA : FS W A xs) (hfr : frErr X Y (a : Int) (b : Int) n = 0) (p : Int) (hp : ¬ (0 ≤ p ∧ p ≤ 100)) : Fn_ Try.prog 22 #[.agg #[iv X, iv Y, iv (a : Int), iv (b : Int), .slice A n c], iv ch, iv p] W (fun v H => v = .tuple #[flt 0, iv 3] ∧ H = []) := by
  by_cases h : p < 0
  · exact rRankN X Y a b A n c xs ch W hn hA hfr p h
  · exact rRankB X Y a b A n c xs ch W hn hA hfr p (by omega)

end Go.Proofs.Ytapcgokcfmklbaa

namespace Go.Proofs.Ytapcgokcfmklbaa
open Go Go.Proofs Go.RowKit

theorem gd_mem {ks : List Nat} {i : Nat} (h : i < ks.length) : gd ks i ∈ ks := List.mem_of_getElem? (gd_at h)
theorem ext_uniq {ks : List Nat} {L G M L' G' M' : Nat} (h : ∀ x ∈ ks, x < 4294967296 ∧ cl x = x) (e : ExT ks L G M) (e' : ExT ks L' G' M') : L = L' ∧ G = G' ∧ M = M' := by
  rcases e with ⟨h1, h2, h3, h4⟩ | ⟨i, j, hi, hj, hL, hG, hM, hmin, hmax⟩
  · rcases e' with ⟨_, k2, k3, k4⟩ | ⟨i', j', hi', _⟩
    · exact ⟨h2.trans k2.symm, h3.trans k3.symm, h4.trans k4.symm⟩
    · rw [h1] at hi'; exact absurd hi' (Nat.not_lt_zero _)
  · rcases e' with ⟨k1, _⟩ | ⟨i', j', hi', hj', hL', hG', hM', hmin', hmax'⟩
    · rw [k1] at hi; exact absurd hi (Nat.not_lt_zero _)
    · have bL := h _ (gd_mem hi)
      have bL' := h _ (gd_mem hi')
      have bG := h _ (gd_mem hj)
      have bG' := h _ (gd_mem hj')
      rw [← hL] at bL
      rw [← hL'] at bL'
      rw [← hG] at bG
      rw [← hG'] at bG'
      refine ⟨exK_inj bL.1 bL'.1 bL.2 bL'.2 ?_ ?_, exK_inj bG.1 bG'.1 bG.2 bG'.2 ?_ ?_, hM.trans hM'.symm⟩
      · rw [hL]; exact hmin' i hi
      · rw [hL']; exact hmin i' hi'
      · rw [hG']; exact hmax j' hj'
      · rw [hG]; exact hmax' j hj
theorem rank_uniq {xs : List Nat} {d d' : Nat → Nat} (h : ∀ x ∈ xs, x < 4294967296 ∧ cl x = x) (hp : (lst d xs.length).Perm (lst (gd xs) xs.length)) (hp' : (lst d' xs.length).Perm (lst (gd xs) xs.length)) (s : So exL 0 xs.length d) (s' : So exL 0 xs.length d') {i : Nat} (hi : i < xs.length) : cl (d i) = d' i := by
  rw [lst_gd] at hp hp'
  have pw : ∀ {f : Nat → Nat}, So exL 0 xs.length f → (lst f xs.length).Pairwise (fun x y => exL y x = false) := fun {f} hf => by
    unfold lst
    rw [List.pairwise_map]
    refine List.Pairwise.imp_of_mem ?_ List.pairwise_lt_range
    intro i j hi hj hij
    exact hf i j (Nat.zero_le _) hij (List.mem_range.1 hj)
  have he : lst d xs.length = lst d' xs.length := by
    refine List.Perm.eq_of_pairwise (fun x y hx hy h1 h2 => ?_) (pw s) (pw s') (hp.trans hp'.symm)
    have bx := h x (hp.mem_iff.1 hx)
    have bY := h y (hp'.mem_iff.1 hy)
    exact exK_inj bx.1 bY.1 bx.2 bY.2 h2 h1
  have e1 := lst_at d hi
  have e2 := lst_at d' hi
  rw [he, e2] at e1
  have e3 := Option.some.inj e1
  rw [e3]
  exact (h _ (hp.mem_iff.1 (List.mem_of_getElem? (lst_at d hi)))).2
/-- the count of a kind -/
def kN (xs : List Nat) (q : Nat) : Nat := cn (fun i => kdP (gd xs i)) xs.length q
theorem kN_sum (xs : List Nat) : kN xs 0 + kN xs 1 + kN xs 2 + kN xs 3 + kN xs 4 = xs.length := cn_sum _ (fun i => kdP_lt _) _
theorem kN_R {xs : List Nat} (h : ∀ x ∈ xs, x < 4294967296) (q : Nat) : cn (fun i => kdR (gd xs i)) xs.length q = kN xs q := by
  unfold kN
  rw [cn_congr xs.length (fun i _ => (kd_eq (gd_32 h i)).symm)]
theorem pOdd' (X Y : Int) (a b : Nat) (A : Option Addr) (c : Nat) (xs : List Nat) (W : World) (hA : FS W A xs) (hfr : frErr X Y (a : Int) (b : Int) xs.length = 0) (hm : xs.length ≤ 1000000) (hn0 : 0 < xs.length) : Fn_ Try.prog 17 #[.agg #[iv X, iv Y, iv (a : Int), iv (b : Int), .slice A xs.length c]] W (fun v H => v = .tuple #[.agg #[iv (kN xs 0 : Int), iv (kN xs 1 : Int), iv (kN xs 2 : Int), iv (kN xs 3 : Int), iv (kN xs 4 : Int)], iv 0] ∧ H = []) :=
  pOdd X Y a b A xs.length c xs W rfl hA hfr hm hn0
theorem rOdd' (X Y : Int) (a b : Nat) (A : Option Addr) (c : Nat) (xs : List Nat) (W : World) (hA : FS W A xs) (h : ∀ x ∈ xs, x < 4294967296) (hm : xs.length ≤ 1000000) (hn0 : 0 < xs.length) : Fn_ Try.prog 18 #[.agg #[iv X, iv Y, iv (a : Int), iv (b : Int), .slice A xs.length c]] W (fun v H => v = .agg #[iv (kN xs 0 : Int), iv (kN xs 1 : Int), iv (kN xs 2 : Int), iv (kN xs 3 : Int), iv (kN xs 4 : Int)] ∧ H = []) := by
  refine (rOdd X Y a b A xs.length c xs W rfl hA hm hn0).mono fun v H hv => ?_
  simp only [kN_R h] at hv
  exact hv
end Go.Proofs.Ytapcgokcfmklbaa

namespace Go.Proofs.Ytapcgokcfmklbaa
open Go Go.Proofs Go.RowKit

theorem fo44_3 : fldOff Try.prog 44 3 = some (3, 3) := by kernel_rfl
theorem eqt49 : intsT Try.prog 49 = 5 := by kernel_rfl
theorem ok15 : callOK Try.prog 15 = true := by kernel_rfl
theorem ok16 : callOK Try.prog 16 = true := by kernel_rfl
theorem ok17 : callOK Try.prog 17 = true := by kernel_rfl
theorem ok18 : callOK Try.prog 18 = true := by kernel_rfl
theorem ok19 : callOK Try.prog 19 = true := by kernel_rfl
theorem ok21 : callOK Try.prog 21 = true := by kernel_rfl
theorem ok22 : callOK Try.prog 22 = true := by kernel_rfl

theorem mix44 : mixT Try.prog 44 [2, 2, 2, 0] = true := by kernel_rfl
theorem fit2 (x y wi he : Int) (A : Option Addr) (n c : Nat) (xs : List Nat) (W : World) (hn : xs.length = n) (hA : FS W A xs) (hlx : n ≤ maxLen) (hx : ∀ u ∈ xs, u < 4294967296) : Fn_ Try.prog 10 #[.agg #[iv x, iv y, iv wi, iv he, .slice A n c]] W (fun v H =>
    ∃ (g : Nat) (X Y : Int) (a b : Nat) (ys : List Nat), v = .agg #[iv X, iv Y, iv (a : Int), iv (b : Int), .slice (some ⟨g, 0, none⟩) ys.length ys.length] ∧ H = [⟨g, 29, ys.map flt⟩] ∧
      ys.length = 4 * (a * b) ∧ (1 ≤ a ∧ a ≤ 8) ∧ (1 ≤ b ∧ b ≤ 8) ∧ (-1000 ≤ X ∧ X ≤ 1000) ∧ (-1000 ≤ Y ∧ Y ≤ 1000) ∧ a * b ≤ 64 ∧ ∀ u ∈ ys, u < 4294967296) := by
  refine (fit x y wi he A n c xs W hn hA hlx).mono fun v H h => ?_
  obtain ⟨g, rfl, rfl⟩ := h
  have h1 := and7_bd wi
  have h2 := and7_bd he
  have h3 := clamp_bd x
  have h4 := clamp_bd y
  obtain ⟨a, ha⟩ : ∃ a : Nat, 1 + and7 wi = (a : Int) := ⟨(1 + and7 wi).toNat, by omega⟩
  obtain ⟨b, hb⟩ : ∃ b : Nat, 1 + and7 he = (b : Int) := ⟨(1 + and7 he).toNat, by omega⟩
  have h7 := fitN_eq wi he
  have h6 : ((a * b : Nat) : Int) = (a : Int) * (b : Int) := Int.natCast_mul ..
  have h8 : fitN wi he = 4 * (a * b) := by rw [ha, hb] at h7; omega
  have h9 : (fitV xs wi he).length = fitN wi he := fitV_len _ _ _
  rw [ha, hb] at h7
  refine ⟨g, clamp x, clamp y, a, b, fitV xs wi he, by rw [ha, hb, h9], rfl, by rw [h9, h8], by omega, by omega, h3, h4, by omega, fitV_lt hx⟩
theorem fit3 (x y wi he : Int) (A : Option Addr) (n c : Nat) (xs : List Nat) (W : World) (hn : xs.length = n) (hA : FS W A xs) (hlx : n ≤ maxLen) (hx : ∀ u ∈ xs, u < 4294967296) : Fn_ Try.prog 10 #[.agg #[iv x, iv y, iv wi, iv he, .slice A n c]] W (fun v H =>
    ∃ (g : Nat) (X Y : Int) (a b : Nat) (ys : List Nat), v = .agg #[iv X, iv Y, iv (a : Int), iv (b : Int), .slice (some ⟨g, 0, none⟩) ys.length ys.length] ∧ H = [⟨g, 29, ys.map flt⟩] ∧
      ys.length = 4 * (a * b) ∧ (1 ≤ a ∧ a ≤ 256) ∧ (1 ≤ b ∧ b ≤ 256) ∧ frErr X Y (a : Int) (b : Int) ys.length = 0 ∧ a * b < 65 ∧ ys.length ≤ maxLen ∧ (0 < ys.length ∧ ys.length ≤ 256) ∧ ∀ u ∈ ys, u < 4294967296) := by
  refine (fit2 x y wi he A n c xs W hn hA hlx hx).mono fun v H h => ?_
  obtain ⟨g, X, Y, a, b, ys, h1, h2, hN, ha, hb, hX, hY, hab, h32⟩ := h
  have hpos := Nat.mul_le_mul ha.1 hb.1
  refine ⟨g, X, Y, a, b, ys, h1, h2, hN, ⟨ha.1, by omega⟩, ⟨hb.1, by omega⟩, ?_, by omega, by unfold maxLen; omega, by omega, h32⟩
  have hcast : ((a * b : Nat) : Int) = (a : Int) * (b : Int) := Int.natCast_mul ..
  have h41 : 4 * (a : Int) * (b : Int) = 4 * ((a : Int) * (b : Int)) := Int.mul_assoc ..
  unfold frErr
  rw [regErr_small ha hb hX hY, if_neg (by simp), if_neg (by omega)]

theorem rank_uniqN {xs : List Nat} {n : Nat} {d d' : Nat → Nat} (hn : xs.length = n) (h : ∀ x ∈ xs, x < 4294967296 ∧ cl x = x) (hp : (lst d n).Perm (lst (gd xs) n)) (hp' : (lst d' n).Perm (lst (gd xs) n)) (s : So exL 0 n d) (s' : So exL 0 n d') {i : Nat} (hi : i < n) : cl (d i) = d' i := by
  subst hn; exact rank_uniq h hp hp' s s' hi

set_option maxHeartbeats 4000000 in
set_option maxRecDepth 100000 in
theorem extBad (x y wi he : Int) (A : Option Addr) (n c : Nat) (xs : List Nat) (ch p : Int) (W : World) (hn : xs.length = n) (hA : FS W A xs) (hlx : n ≤ maxLen) (hx32 : ∀ u ∈ xs, u < 4294967296) (hch : ¬ (0 ≤ ch ∧ ch ≤ 4)) : Fn_ Try.prog 4 #[.agg #[iv x, iv y, iv wi, iv he, .slice A n c], iv ch, iv p] W (fun v H => v = .bool true ∧ H = []) := by
  refine Fn_.intro Try.func4 rfl rfl (by rfl) ?_
  refine CS.seq ?_
  refine CS.region ?_
  refine RS.box rfl (by rfl) (by rfl) ?_
  intro g3
  refine RS.q rfl (QO.assign) ?_
  refine RS.nil ?_
  refine thenC_n ?_
  refine CS.seq ?_
  refine CS.seq ?_
  refine CS.region ?_
  refine RS.call rfl (by rfl) ok9 (by rfl) (fun w ho => landed _) ?_
  rintro _ _ ⟨rfl, rfl⟩
  refine RS.q rfl (QO.not (by rfl)) ?_
  refine RS.nil ?_
  refine thenC_n ?_
  refine CS.condF (by rfl) rfl ?_
  refine CS.skip ?_
  refine thenC_n ?_
  refine CS.seq ?_
  refine CS.region ?_
  first | (refine RS.q rfl (QO.loadB ty26 (by rfl) (by repeat (first | exact List.Mem.head _ | refine List.Mem.tail _ ?_)) (by rfl)) ?_) | (refine RS.q rfl (QO.loadA ty26 (by rfl) (by repeat (first | exact List.Mem.head _ | refine List.Mem.tail _ ?_)) (by rfl) (by rfl)) ?_) | (refine RS.q rfl (QO.loadOA ty26 (by rfl) (by assumption) (by rfl)) ?_)
  refine RS.call rfl (by rfl) ok10 (by rfl) (fun w ho => fit3 x y wi he A n c xs w hn (hA.own ho) hlx hx32) ?_
  intro v20 H20 h20
  obtain ⟨gf, X, Y, a, b, ys, rfl, rfl, hN, ha, hb, hfr, hab, hcm, hn0, h32⟩ := h20
  have hks := kN_sum ys
  first | refine RS.storeB ty26 (by rfl) (by rfl) (by rfl) (by rfl) (by rfl) (by repeat (first | exact Upd.head | apply Upd.tail)) (by rfl) ?_ | refine RS.storeP ty26 (by rfl) (by rfl) (by rfl) (by rfl) (by rfl) (by repeat (first | exact Upd.head | apply Upd.tail)) (by rfl) ?_
  refine RS.nil ?_
  refine thenC_n ?_
  refine CS.seq ?_
  refine CS.region ?_
  first | (refine RS.q rfl (QO.loadB ty26 (by rfl) (by repeat (first | exact List.Mem.head _ | refine List.Mem.tail _ ?_)) (by rfl)) ?_) | (refine RS.q rfl (QO.loadA ty26 (by rfl) (by repeat (first | exact List.Mem.head _ | refine List.Mem.tail _ ?_)) (by rfl) (by rfl)) ?_) | (refine RS.q rfl (QO.loadOA ty26 (by rfl) (by assumption) (by rfl)) ?_)
  refine RS.q rfl (QO.move) ?_
  refine RS.call rfl (by rfl) ok15 (by rfl) (fun w ho => pExtBad X Y a b _ _ _ ys ch _ rfl (FS.blk' ho (by repeat (first | exact List.Mem.head _ | refine List.Mem.tail _ ?_))) hfr hch) ?_
  rintro _ _ ⟨rfl, rfl⟩
  refine RS.q rfl (QO.move) ?_
  refine RS.q rfl (QO.extract (by rfl) (by rfl)) ?_
  refine RS.q rfl (QO.extract (by rfl) (by rfl)) ?_
  refine RS.alloc rfl ty44 ?_
  intro g7
  first | refine RS.storeB ty44 (by rfl) (by rfl) (by rfl) (by rfl) (by rfl) (by repeat (first | exact Upd.head | apply Upd.tail)) (by rfl) ?_ | refine RS.storeP ty44 (by rfl) (by rfl) (by rfl) (by rfl) (by rfl) (by repeat (first | exact Upd.head | apply Upd.tail)) (by rfl) ?_
  refine RS.q rfl (QO.assign) ?_
  refine RS.nil ?_
  refine thenC_n ?_
  refine CS.seq ?_
  refine CS.region ?_
  first | (refine RS.q rfl (QO.loadB ty26 (by rfl) (by repeat (first | exact List.Mem.head _ | refine List.Mem.tail _ ?_)) (by rfl)) ?_) | (refine RS.q rfl (QO.loadA ty26 (by rfl) (by repeat (first | exact List.Mem.head _ | refine List.Mem.tail _ ?_)) (by rfl) (by rfl)) ?_) | (refine RS.q rfl (QO.loadOA ty26 (by rfl) (by assumption) (by rfl)) ?_)
  refine RS.q rfl (QO.move) ?_
  refine RS.q rfl (QO.move) ?_
  refine RS.call rfl (by rfl) ok16 (by rfl) (fun w ho => pRankCh X Y a b _ _ _ ys ch _ rfl (FS.blk' ho (by repeat (first | exact List.Mem.head _ | refine List.Mem.tail _ ?_))) hfr p hch) ?_
  rintro _ _ ⟨rfl, rfl⟩
  refine RS.q rfl (QO.move) ?_
  refine RS.q rfl (QO.extract (by rfl) (by rfl)) ?_
  refine RS.q rfl (QO.extract (by rfl) (by rfl)) ?_
  refine RS.q rfl (QO.assign) ?_
  refine RS.q rfl (QO.assign) ?_
  refine RS.nil ?_
  refine thenC_n ?_
  refine CS.seq ?_
  refine CS.region ?_
  first | (refine RS.q rfl (QO.loadB ty26 (by rfl) (by repeat (first | exact List.Mem.head _ | refine List.Mem.tail _ ?_)) (by rfl)) ?_) | (refine RS.q rfl (QO.loadA ty26 (by rfl) (by repeat (first | exact List.Mem.head _ | refine List.Mem.tail _ ?_)) (by rfl) (by rfl)) ?_) | (refine RS.q rfl (QO.loadOA ty26 (by rfl) (by assumption) (by rfl)) ?_)
  refine RS.call rfl (by rfl) ok17 (by rfl) (fun w ho => pOdd' X Y a b _ _ ys _ (FS.blk' ho (by repeat (first | exact List.Mem.head _ | refine List.Mem.tail _ ?_))) hfr (by omega) (by omega)) ?_
  rintro _ _ ⟨rfl, rfl⟩
  refine RS.q rfl (QO.move) ?_
  refine RS.q rfl (QO.extract (by rfl) (by rfl)) ?_
  refine RS.q rfl (QO.extract (by rfl) (by rfl)) ?_
  refine RS.alloc rfl ty49 ?_
  intro g11
  first | refine RS.storeB ty49 (by rfl) (by rfl) (by rfl) (by rfl) (by rfl) (by repeat (first | exact Upd.head | apply Upd.tail)) (by rfl) ?_ | refine RS.storeP ty49 (by rfl) (by rfl) (by rfl) (by rfl) (by rfl) (by repeat (first | exact Upd.head | apply Upd.tail)) (by rfl) ?_
  refine RS.q rfl (QO.assign) ?_
  refine RS.nil ?_
  refine thenC_n ?_
  refine CS.seq ?_
  refine CS.seq ?_
  refine CS.draw 28 rfl (by kernel_rfl) (by kernel_rfl) ?_
  refine RT.take (i := 0) rfl (by kernel_rfl) rfl (QO.move) ?_
  refine RT.take (i := 1) rfl (by kernel_rfl) rfl (QO.neq (by rfl) (by rfl)) ?_
  refine RT.take (i := 2) rfl (by kernel_rfl) rfl (QO.move) ?_
  first | (refine RT.takeOn (i := 3) (dj := 41) rfl rfl (congrArg Value.bool rfl) (by kernel_rfl) rfl (QO.loadB ty49 (by rfl) (by repeat (first | exact List.Mem.head _ | refine List.Mem.tail _ ?_)) (by rfl)) ?_) | (refine RT.takeOn (i := 3) (dj := 41) rfl rfl (congrArg Value.bool rfl) (by kernel_rfl) rfl (QO.loadA ty49 (by rfl) (by repeat (first | exact List.Mem.head _ | refine List.Mem.tail _ ?_)) (by rfl) (by rfl)) ?_) | (refine RT.takeOn (i := 3) (dj := 41) rfl rfl (congrArg Value.bool rfl) (by kernel_rfl) rfl (QO.loadOA ty49 (by rfl) (by assumption) (by rfl)) ?_)
  first | (refine RT.takeOn (i := 4) (dj := 41) rfl rfl (congrArg Value.bool rfl) (by kernel_rfl) rfl (QO.loadB ty26 (by rfl) (by repeat (first | exact List.Mem.head _ | refine List.Mem.tail _ ?_)) (by rfl)) ?_) | (refine RT.takeOn (i := 4) (dj := 41) rfl rfl (congrArg Value.bool rfl) (by kernel_rfl) rfl (QO.loadA ty26 (by rfl) (by repeat (first | exact List.Mem.head _ | refine List.Mem.tail _ ?_)) (by rfl) (by rfl)) ?_) | (refine RT.takeOn (i := 4) (dj := 41) rfl rfl (congrArg Value.bool rfl) (by kernel_rfl) rfl (QO.loadOA ty26 (by rfl) (by assumption) (by rfl)) ?_)
  refine RT.one (i := 5) (by kernel_rfl) rfl rfl ?_
  refine RS.on (dj := 41) rfl (congrArg Value.bool rfl) ?_
  refine RS.call rfl (by rfl) ok18 (by rfl) (fun w ho => rOdd' X Y a b _ _ ys _ (FS.blk' ho (by repeat (first | exact List.Mem.head _ | refine List.Mem.tail _ ?_))) h32 (by omega) (by omega)) ?_
  rintro _ _ ⟨rfl, rfl⟩
  refine RS.nil ⟨(by repeat (first | exact List.Sublist.refl _ | exact List.nil_sublist _ | refine List.Sublist.cons_cons _ ?_ | refine List.Sublist.cons _ ?_ | exact Sbp.refl | exact Sbp.nil | refine Sbp.cons (by repeat (first | exact Rem.head | apply Rem.tail)) ?_ | exact Sbp.app | refine Sbp.skip ?_ | exact List.sublist_append_left _ _ | exact List.sublist_append_right _ _)), ?_⟩
  refine RT.takeOnv (i := 6) (dj := 41) rfl rfl (congrArg Value.bool rfl) (by kernel_rfl) rfl (QO.sneq (zs := [(kN ys 0 : Int), (kN ys 1 : Int), (kN ys 2 : Int), (kN ys 3 : Int), (kN ys 4 : Int)]) (ws := [(kN ys 0 : Int), (kN ys 1 : Int), (kN ys 2 : Int), (kN ys 3 : Int), (kN ys 4 : Int)]) eqt49 (by decide) (by rfl) (by rfl) (by rfl) (by rfl)) (congrArg Value.bool (bne_self_eq_false _)) ?_
  refine RT.take (i := 7) rfl (by kernel_rfl) rfl (QO.pickF (by rfl) rfl (by rfl)) ?_
  refine RT.take (i := 8) rfl (by kernel_rfl) rfl (QO.move) ?_
  refine RT.takeOn (i := 9) (dj := 47) rfl rfl (congrArg Value.bool rfl) (by kernel_rfl) rfl (QO.fieldAddr fo49_0 (by rfl)) ?_
  first | (refine RT.takeOn (i := 10) (dj := 47) rfl rfl (congrArg Value.bool rfl) (by kernel_rfl) rfl (QO.load ty3 (by rfl) (by repeat (first | exact List.Mem.head _ | refine List.Mem.tail _ ?_)) (by rfl)) ?_) | (refine RT.takeOn (i := 10) (dj := 47) rfl rfl (congrArg Value.bool rfl) (by kernel_rfl) rfl (QO.loadO ty3 (by rfl) (by assumption)) ?_) | (refine RT.takeOn (i := 10) (dj := 47) rfl rfl (congrArg Value.bool rfl) (by kernel_rfl) rfl (QO.load ty3 (by rfl) (by repeat (first | exact List.Mem.head _ | refine List.Mem.tail _ ?_)) (by assumption)) ?_)
  refine RT.takeOn (i := 11) (dj := 47) rfl rfl (congrArg Value.bool rfl) (by kernel_rfl) rfl (QO.fieldAddr fo49_1 (by rfl)) ?_
  first | (refine RT.takeOn (i := 12) (dj := 47) rfl rfl (congrArg Value.bool rfl) (by kernel_rfl) rfl (QO.load ty3 (by rfl) (by repeat (first | exact List.Mem.head _ | refine List.Mem.tail _ ?_)) (by rfl)) ?_) | (refine RT.takeOn (i := 12) (dj := 47) rfl rfl (congrArg Value.bool rfl) (by kernel_rfl) rfl (QO.loadO ty3 (by rfl) (by assumption)) ?_) | (refine RT.takeOn (i := 12) (dj := 47) rfl rfl (congrArg Value.bool rfl) (by kernel_rfl) rfl (QO.load ty3 (by rfl) (by repeat (first | exact List.Mem.head _ | refine List.Mem.tail _ ?_)) (by assumption)) ?_)
  first | (refine RT.takeOn (i := 13) (dj := 47) rfl rfl (congrArg Value.bool rfl) (by kernel_rfl) rfl (QO.add (by rfl) (by rfl) (by omega) (by omega)) ?_) | (refine RT.takeOn (i := 13) (dj := 47) rfl rfl (congrArg Value.bool rfl) (by kernel_rfl) rfl (QO.ibin (by rfl) (by rfl) trivial) ?_)
  refine RT.takeOn (i := 14) (dj := 47) rfl rfl (congrArg Value.bool rfl) (by kernel_rfl) rfl (QO.fieldAddr fo49_2 (by rfl)) ?_
  first | (refine RT.takeOn (i := 15) (dj := 47) rfl rfl (congrArg Value.bool rfl) (by kernel_rfl) rfl (QO.load ty3 (by rfl) (by repeat (first | exact List.Mem.head _ | refine List.Mem.tail _ ?_)) (by rfl)) ?_) | (refine RT.takeOn (i := 15) (dj := 47) rfl rfl (congrArg Value.bool rfl) (by kernel_rfl) rfl (QO.loadO ty3 (by rfl) (by assumption)) ?_) | (refine RT.takeOn (i := 15) (dj := 47) rfl rfl (congrArg Value.bool rfl) (by kernel_rfl) rfl (QO.load ty3 (by rfl) (by repeat (first | exact List.Mem.head _ | refine List.Mem.tail _ ?_)) (by assumption)) ?_)
  first | (refine RT.takeOn (i := 16) (dj := 47) rfl rfl (congrArg Value.bool rfl) (by kernel_rfl) rfl (QO.add (by rfl) (by rfl) (by omega) (by omega)) ?_) | (refine RT.takeOn (i := 16) (dj := 47) rfl rfl (congrArg Value.bool rfl) (by kernel_rfl) rfl (QO.ibin (by rfl) (by rfl) trivial) ?_)
  refine RT.takeOn (i := 17) (dj := 47) rfl rfl (congrArg Value.bool rfl) (by kernel_rfl) rfl (QO.fieldAddr fo49_3 (by rfl)) ?_
  first | (refine RT.takeOn (i := 18) (dj := 47) rfl rfl (congrArg Value.bool rfl) (by kernel_rfl) rfl (QO.load ty3 (by rfl) (by repeat (first | exact List.Mem.head _ | refine List.Mem.tail _ ?_)) (by rfl)) ?_) | (refine RT.takeOn (i := 18) (dj := 47) rfl rfl (congrArg Value.bool rfl) (by kernel_rfl) rfl (QO.loadO ty3 (by rfl) (by assumption)) ?_) | (refine RT.takeOn (i := 18) (dj := 47) rfl rfl (congrArg Value.bool rfl) (by kernel_rfl) rfl (QO.load ty3 (by rfl) (by repeat (first | exact List.Mem.head _ | refine List.Mem.tail _ ?_)) (by assumption)) ?_)
  first | (refine RT.takeOn (i := 19) (dj := 47) rfl rfl (congrArg Value.bool rfl) (by kernel_rfl) rfl (QO.add (by rfl) (by rfl) (by omega) (by omega)) ?_) | (refine RT.takeOn (i := 19) (dj := 47) rfl rfl (congrArg Value.bool rfl) (by kernel_rfl) rfl (QO.ibin (by rfl) (by rfl) trivial) ?_)
  refine RT.takeOn (i := 20) (dj := 47) rfl rfl (congrArg Value.bool rfl) (by kernel_rfl) rfl (QO.fieldAddr fo49_4 (by rfl)) ?_
  first | (refine RT.takeOn (i := 21) (dj := 47) rfl rfl (congrArg Value.bool rfl) (by kernel_rfl) rfl (QO.load ty3 (by rfl) (by repeat (first | exact List.Mem.head _ | refine List.Mem.tail _ ?_)) (by rfl)) ?_) | (refine RT.takeOn (i := 21) (dj := 47) rfl rfl (congrArg Value.bool rfl) (by kernel_rfl) rfl (QO.loadO ty3 (by rfl) (by assumption)) ?_) | (refine RT.takeOn (i := 21) (dj := 47) rfl rfl (congrArg Value.bool rfl) (by kernel_rfl) rfl (QO.load ty3 (by rfl) (by repeat (first | exact List.Mem.head _ | refine List.Mem.tail _ ?_)) (by assumption)) ?_)
  first | (refine RT.takeOn (i := 22) (dj := 47) rfl rfl (congrArg Value.bool rfl) (by kernel_rfl) rfl (QO.add (by rfl) (by rfl) (by omega) (by omega)) ?_) | (refine RT.takeOn (i := 22) (dj := 47) rfl rfl (congrArg Value.bool rfl) (by kernel_rfl) rfl (QO.ibin (by rfl) (by rfl) trivial) ?_)
  refine RT.takeOn (i := 23) (dj := 47) rfl rfl (congrArg Value.bool rfl) (by kernel_rfl) rfl (QO.fieldAddr fo26_1 (by rfl)) ?_
  first | (refine RT.takeOn (i := 24) (dj := 47) rfl rfl (congrArg Value.bool rfl) (by kernel_rfl) rfl (QO.load ty24 (by rfl) (by repeat (first | exact List.Mem.head _ | refine List.Mem.tail _ ?_)) (by rfl)) ?_) | (refine RT.takeOn (i := 24) (dj := 47) rfl rfl (congrArg Value.bool rfl) (by kernel_rfl) rfl (QO.loadO ty24 (by rfl) (by assumption)) ?_) | (refine RT.takeOn (i := 24) (dj := 47) rfl rfl (congrArg Value.bool rfl) (by kernel_rfl) rfl (QO.load ty24 (by rfl) (by repeat (first | exact List.Mem.head _ | refine List.Mem.tail _ ?_)) (by assumption)) ?_)
  refine RT.takeOn (i := 25) (dj := 47) rfl rfl (congrArg Value.bool rfl) (by kernel_rfl) rfl (QO.lenS Try.underlying24 (by rfl)) ?_
  refine RT.takeOnv (i := 26) (dj := 47) rfl rfl (congrArg Value.bool rfl) (by kernel_rfl) rfl (QO.neq (by rfl) (by rfl)) (congrArg Value.bool (bne_eq_false_iff_eq.2 (by omega))) ?_
  refine RT.take (i := 27) rfl (by kernel_rfl) rfl (QO.pickF (by rfl) rfl (by rfl)) ?_
  refine RT.done (by kernel_rfl) ?_
  refine thenC_n ?_
  refine CS.condF (by rfl) rfl ?_
  refine CS.skip ?_
  refine thenC_n ?_
  refine CS.seq ?_
  refine CS.seq ?_
  refine CS.region ?_
  refine RS.q rfl (QO.move) ?_
  refine RS.call rfl (by rfl) ok19 (by rfl) (fun w ho => chBad ch _ hch) ?_
  rintro _ _ ⟨rfl, rfl⟩
  refine RS.q rfl (QO.assign) ?_
  refine RS.nil ?_
  refine thenC_n ?_
  refine CS.seq ?_
  refine CS.region ?_
  refine RS.q rfl (QO.move) ?_
  refine RS.q rfl (QO.neq (by rfl) (by rfl)) ?_
  refine RS.nil ?_
  refine thenC_n ?_
  refine CS.condT (by rfl) rfl ?_
  refine CS.seq ?_
  refine CS.region ?_
  refine RS.q rfl (QO.move) ?_
  refine RS.q rfl (QO.move) ?_
  refine RS.q rfl (QO.eql (by rfl) (by rfl)) ?_
  refine RS.q rfl (QO.move) ?_
  refine RS.on (dj := 74) rfl (congrArg Value.bool rfl) ?_
  refine RS.q rfl (QO.move) ?_
  refine RS.on (dj := 74) rfl (congrArg Value.bool rfl) ?_
  refine RS.q rfl (QO.move) ?_
  refine RS.on (dj := 74) rfl (congrArg Value.bool rfl) ?_
  refine RS.q rfl (QO.eql (by rfl) (by rfl)) ?_
  refine RS.q rfl (QO.pickT (by rfl) rfl (by rfl)) ?_
  refine RS.q rfl (QO.move) ?_
  refine RS.on (dj := 79) rfl (congrArg Value.bool rfl) ?_
  first | (refine RS.q rfl (QO.loadB ty44 (by rfl) (by repeat (first | exact List.Mem.head _ | refine List.Mem.tail _ ?_)) (by rfl)) ?_) | (refine RS.q rfl (QO.loadA ty44 (by rfl) (by repeat (first | exact List.Mem.head _ | refine List.Mem.tail _ ?_)) (by rfl) (by rfl)) ?_) | (refine RS.q rfl (QO.loadOA ty44 (by rfl) (by assumption) (by rfl)) ?_)
  refine RS.on (dj := 79) rfl (congrArg Value.bool rfl) ?_
  refine RS.qv rfl (QO.build ty44 pl44 (by rfl)) (show _ = Value.agg #[flt 0, flt 0, flt 0, iv 0] from rfl) ?_
  refine RS.on (dj := 79) rfl (congrArg Value.bool rfl) ?_
  refine RS.qv rfl (QO.seqlM [.f 0, .f 0, .f 0, .i 0] [.f 0, .f 0, .f 0, .i 0] mix44 (by rfl) (by rfl) (by rfl) (by rfl)) (congrArg Value.bool (show allEq [Fd.f 0, .f 0, .f 0, .i 0] [.f 0, .f 0, .f 0, .i 0] = true by decide +kernel)) ?_
  refine RS.q rfl (QO.pickT (by rfl) rfl (by rfl)) ?_
  refine RS.q rfl (QO.move) ?_
  refine RS.on (dj := 84) rfl (congrArg Value.bool rfl) ?_
  refine RS.q rfl (QO.move) ?_
  refine RS.on (dj := 84) rfl (congrArg Value.bool rfl) ?_
  refine RS.call rfl (by rfl) ok20 (by rfl) (fun w ho => exact_true 0 0 rfl _) ?_
  rintro _ _ ⟨rfl, rfl⟩
  refine RS.q rfl (QO.pickT (by rfl) rfl (by rfl)) ?_
  refine RS.q rfl (QO.assign) ?_
  refine RS.nil ?_
  refine thenC_n ?_
  refine CS.ret ?_
  refine thenC_r ?_
  refine retQ.mk (H' := []) (.inr rfl) (RVs.tmp (by rfl) RVs.nil) (List.nil_sublist _) ?_
  exact ⟨rfl, rfl⟩

set_option maxHeartbeats 4000000 in
set_option maxRecDepth 100000 in
theorem extPart (x y wi he : Int) (A : Option Addr) (n c : Nat) (xs : List Nat) (ch p : Int) (W : World) (hn : xs.length = n) (hA : FS W A xs) (hlx : n ≤ maxLen) (hx32 : ∀ u ∈ xs, u < 4294967296) (h0 : 0 ≤ ch) (h4 : ch ≤ 4) (hp : ¬ (0 ≤ p ∧ p ≤ 100)) : Fn_ Try.prog 4 #[.agg #[iv x, iv y, iv wi, iv he, .slice A n c], iv ch, iv p] W (fun v H => v = .bool true ∧ H = []) := by
  refine Fn_.intro Try.func4 rfl rfl (by rfl) ?_
  refine CS.seq ?_
  refine CS.region ?_
  refine RS.box rfl (by rfl) (by rfl) ?_
  intro g3
  refine RS.q rfl (QO.assign) ?_
  refine RS.nil ?_
  refine thenC_n ?_
  refine CS.seq ?_
  refine CS.seq ?_
  refine CS.region ?_
  refine RS.call rfl (by rfl) ok9 (by rfl) (fun w ho => landed _) ?_
  rintro _ _ ⟨rfl, rfl⟩
  refine RS.q rfl (QO.not (by rfl)) ?_
  refine RS.nil ?_
  refine thenC_n ?_
  refine CS.condF (by rfl) rfl ?_
  refine CS.skip ?_
  refine thenC_n ?_
  refine CS.seq ?_
  refine CS.region ?_
  first | (refine RS.q rfl (QO.loadB ty26 (by rfl) (by repeat (first | exact List.Mem.head _ | refine List.Mem.tail _ ?_)) (by rfl)) ?_) | (refine RS.q rfl (QO.loadA ty26 (by rfl) (by repeat (first | exact List.Mem.head _ | refine List.Mem.tail _ ?_)) (by rfl) (by rfl)) ?_) | (refine RS.q rfl (QO.loadOA ty26 (by rfl) (by assumption) (by rfl)) ?_)
  refine RS.call rfl (by rfl) ok10 (by rfl) (fun w ho => fit3 x y wi he A n c xs w hn (hA.own ho) hlx hx32) ?_
  intro v20 H20 h20
  obtain ⟨gf, X, Y, a, b, ys, rfl, rfl, hN, ha, hb, hfr, hab, hcm, hn0, h32⟩ := h20
  have hks := kN_sum ys
  first | refine RS.storeB ty26 (by rfl) (by rfl) (by rfl) (by rfl) (by rfl) (by repeat (first | exact Upd.head | apply Upd.tail)) (by rfl) ?_ | refine RS.storeP ty26 (by rfl) (by rfl) (by rfl) (by rfl) (by rfl) (by repeat (first | exact Upd.head | apply Upd.tail)) (by rfl) ?_
  refine RS.nil ?_
  refine thenC_n ?_
  refine CS.seq ?_
  refine CS.region ?_
  first | (refine RS.q rfl (QO.loadB ty26 (by rfl) (by repeat (first | exact List.Mem.head _ | refine List.Mem.tail _ ?_)) (by rfl)) ?_) | (refine RS.q rfl (QO.loadA ty26 (by rfl) (by repeat (first | exact List.Mem.head _ | refine List.Mem.tail _ ?_)) (by rfl) (by rfl)) ?_) | (refine RS.q rfl (QO.loadOA ty26 (by rfl) (by assumption) (by rfl)) ?_)
  refine RS.q rfl (QO.move) ?_
  refine RS.call rfl (by rfl) ok15 (by rfl) (fun w ho => pExtent X Y a b _ _ _ ys ch _ rfl (FS.blk' ho (by repeat (first | exact List.Mem.head _ | refine List.Mem.tail _ ?_))) hfr hN (Nat.le_refl _) hcm ha hb h32 h0 h4) ?_
  rintro _ _ ⟨L1, G1, M1, rfl, hE1, rfl⟩
  refine RS.q rfl (QO.move) ?_
  refine RS.q rfl (QO.extract (by rfl) (by rfl)) ?_
  refine RS.q rfl (QO.extract (by rfl) (by rfl)) ?_
  refine RS.alloc rfl ty44 ?_
  intro g7
  first | refine RS.storeB ty44 (by rfl) (by rfl) (by rfl) (by rfl) (by rfl) (by repeat (first | exact Upd.head | apply Upd.tail)) (by rfl) ?_ | refine RS.storeP ty44 (by rfl) (by rfl) (by rfl) (by rfl) (by rfl) (by repeat (first | exact Upd.head | apply Upd.tail)) (by rfl) ?_
  refine RS.q rfl (QO.assign) ?_
  refine RS.nil ?_
  refine thenC_n ?_
  refine CS.seq ?_
  refine CS.region ?_
  first | (refine RS.q rfl (QO.loadB ty26 (by rfl) (by repeat (first | exact List.Mem.head _ | refine List.Mem.tail _ ?_)) (by rfl)) ?_) | (refine RS.q rfl (QO.loadA ty26 (by rfl) (by repeat (first | exact List.Mem.head _ | refine List.Mem.tail _ ?_)) (by rfl) (by rfl)) ?_) | (refine RS.q rfl (QO.loadOA ty26 (by rfl) (by assumption) (by rfl)) ?_)
  refine RS.q rfl (QO.move) ?_
  refine RS.q rfl (QO.move) ?_
  refine RS.call rfl (by rfl) ok16 (by rfl) (fun w ho => pRankPt X Y a b _ _ _ ys ch _ rfl (FS.blk' ho (by repeat (first | exact List.Mem.head _ | refine List.Mem.tail _ ?_))) hfr hN (Nat.le_refl _) hcm ha hb h32 h0 h4 p hp) ?_
  rintro _ _ ⟨rfl, rfl⟩
  refine RS.q rfl (QO.move) ?_
  refine RS.q rfl (QO.extract (by rfl) (by rfl)) ?_
  refine RS.q rfl (QO.extract (by rfl) (by rfl)) ?_
  refine RS.q rfl (QO.assign) ?_
  refine RS.q rfl (QO.assign) ?_
  refine RS.nil ?_
  refine thenC_n ?_
  refine CS.seq ?_
  refine CS.region ?_
  first | (refine RS.q rfl (QO.loadB ty26 (by rfl) (by repeat (first | exact List.Mem.head _ | refine List.Mem.tail _ ?_)) (by rfl)) ?_) | (refine RS.q rfl (QO.loadA ty26 (by rfl) (by repeat (first | exact List.Mem.head _ | refine List.Mem.tail _ ?_)) (by rfl) (by rfl)) ?_) | (refine RS.q rfl (QO.loadOA ty26 (by rfl) (by assumption) (by rfl)) ?_)
  refine RS.call rfl (by rfl) ok17 (by rfl) (fun w ho => pOdd' X Y a b _ _ ys _ (FS.blk' ho (by repeat (first | exact List.Mem.head _ | refine List.Mem.tail _ ?_))) hfr (by omega) (by omega)) ?_
  rintro _ _ ⟨rfl, rfl⟩
  refine RS.q rfl (QO.move) ?_
  refine RS.q rfl (QO.extract (by rfl) (by rfl)) ?_
  refine RS.q rfl (QO.extract (by rfl) (by rfl)) ?_
  refine RS.alloc rfl ty49 ?_
  intro g11
  first | refine RS.storeB ty49 (by rfl) (by rfl) (by rfl) (by rfl) (by rfl) (by repeat (first | exact Upd.head | apply Upd.tail)) (by rfl) ?_ | refine RS.storeP ty49 (by rfl) (by rfl) (by rfl) (by rfl) (by rfl) (by repeat (first | exact Upd.head | apply Upd.tail)) (by rfl) ?_
  refine RS.q rfl (QO.assign) ?_
  refine RS.nil ?_
  refine thenC_n ?_
  refine CS.seq ?_
  refine CS.seq ?_
  refine CS.draw 28 rfl (by kernel_rfl) (by kernel_rfl) ?_
  refine RT.take (i := 0) rfl (by kernel_rfl) rfl (QO.move) ?_
  refine RT.take (i := 1) rfl (by kernel_rfl) rfl (QO.neq (by rfl) (by rfl)) ?_
  refine RT.take (i := 2) rfl (by kernel_rfl) rfl (QO.move) ?_
  first | (refine RT.takeOn (i := 3) (dj := 41) rfl rfl (congrArg Value.bool rfl) (by kernel_rfl) rfl (QO.loadB ty49 (by rfl) (by repeat (first | exact List.Mem.head _ | refine List.Mem.tail _ ?_)) (by rfl)) ?_) | (refine RT.takeOn (i := 3) (dj := 41) rfl rfl (congrArg Value.bool rfl) (by kernel_rfl) rfl (QO.loadA ty49 (by rfl) (by repeat (first | exact List.Mem.head _ | refine List.Mem.tail _ ?_)) (by rfl) (by rfl)) ?_) | (refine RT.takeOn (i := 3) (dj := 41) rfl rfl (congrArg Value.bool rfl) (by kernel_rfl) rfl (QO.loadOA ty49 (by rfl) (by assumption) (by rfl)) ?_)
  first | (refine RT.takeOn (i := 4) (dj := 41) rfl rfl (congrArg Value.bool rfl) (by kernel_rfl) rfl (QO.loadB ty26 (by rfl) (by repeat (first | exact List.Mem.head _ | refine List.Mem.tail _ ?_)) (by rfl)) ?_) | (refine RT.takeOn (i := 4) (dj := 41) rfl rfl (congrArg Value.bool rfl) (by kernel_rfl) rfl (QO.loadA ty26 (by rfl) (by repeat (first | exact List.Mem.head _ | refine List.Mem.tail _ ?_)) (by rfl) (by rfl)) ?_) | (refine RT.takeOn (i := 4) (dj := 41) rfl rfl (congrArg Value.bool rfl) (by kernel_rfl) rfl (QO.loadOA ty26 (by rfl) (by assumption) (by rfl)) ?_)
  refine RT.one (i := 5) (by kernel_rfl) rfl rfl ?_
  refine RS.on (dj := 41) rfl (congrArg Value.bool rfl) ?_
  refine RS.call rfl (by rfl) ok18 (by rfl) (fun w ho => rOdd' X Y a b _ _ ys _ (FS.blk' ho (by repeat (first | exact List.Mem.head _ | refine List.Mem.tail _ ?_))) h32 (by omega) (by omega)) ?_
  rintro _ _ ⟨rfl, rfl⟩
  refine RS.nil ⟨(by repeat (first | exact List.Sublist.refl _ | exact List.nil_sublist _ | refine List.Sublist.cons_cons _ ?_ | refine List.Sublist.cons _ ?_ | exact Sbp.refl | exact Sbp.nil | refine Sbp.cons (by repeat (first | exact Rem.head | apply Rem.tail)) ?_ | exact Sbp.app | refine Sbp.skip ?_ | exact List.sublist_append_left _ _ | exact List.sublist_append_right _ _)), ?_⟩
  refine RT.takeOnv (i := 6) (dj := 41) rfl rfl (congrArg Value.bool rfl) (by kernel_rfl) rfl (QO.sneq (zs := [(kN ys 0 : Int), (kN ys 1 : Int), (kN ys 2 : Int), (kN ys 3 : Int), (kN ys 4 : Int)]) (ws := [(kN ys 0 : Int), (kN ys 1 : Int), (kN ys 2 : Int), (kN ys 3 : Int), (kN ys 4 : Int)]) eqt49 (by decide) (by rfl) (by rfl) (by rfl) (by rfl)) (congrArg Value.bool (bne_self_eq_false _)) ?_
  refine RT.take (i := 7) rfl (by kernel_rfl) rfl (QO.pickF (by rfl) rfl (by rfl)) ?_
  refine RT.take (i := 8) rfl (by kernel_rfl) rfl (QO.move) ?_
  refine RT.takeOn (i := 9) (dj := 47) rfl rfl (congrArg Value.bool rfl) (by kernel_rfl) rfl (QO.fieldAddr fo49_0 (by rfl)) ?_
  first | (refine RT.takeOn (i := 10) (dj := 47) rfl rfl (congrArg Value.bool rfl) (by kernel_rfl) rfl (QO.load ty3 (by rfl) (by repeat (first | exact List.Mem.head _ | refine List.Mem.tail _ ?_)) (by rfl)) ?_) | (refine RT.takeOn (i := 10) (dj := 47) rfl rfl (congrArg Value.bool rfl) (by kernel_rfl) rfl (QO.loadO ty3 (by rfl) (by assumption)) ?_) | (refine RT.takeOn (i := 10) (dj := 47) rfl rfl (congrArg Value.bool rfl) (by kernel_rfl) rfl (QO.load ty3 (by rfl) (by repeat (first | exact List.Mem.head _ | refine List.Mem.tail _ ?_)) (by assumption)) ?_)
  refine RT.takeOn (i := 11) (dj := 47) rfl rfl (congrArg Value.bool rfl) (by kernel_rfl) rfl (QO.fieldAddr fo49_1 (by rfl)) ?_
  first | (refine RT.takeOn (i := 12) (dj := 47) rfl rfl (congrArg Value.bool rfl) (by kernel_rfl) rfl (QO.load ty3 (by rfl) (by repeat (first | exact List.Mem.head _ | refine List.Mem.tail _ ?_)) (by rfl)) ?_) | (refine RT.takeOn (i := 12) (dj := 47) rfl rfl (congrArg Value.bool rfl) (by kernel_rfl) rfl (QO.loadO ty3 (by rfl) (by assumption)) ?_) | (refine RT.takeOn (i := 12) (dj := 47) rfl rfl (congrArg Value.bool rfl) (by kernel_rfl) rfl (QO.load ty3 (by rfl) (by repeat (first | exact List.Mem.head _ | refine List.Mem.tail _ ?_)) (by assumption)) ?_)
  first | (refine RT.takeOn (i := 13) (dj := 47) rfl rfl (congrArg Value.bool rfl) (by kernel_rfl) rfl (QO.add (by rfl) (by rfl) (by omega) (by omega)) ?_) | (refine RT.takeOn (i := 13) (dj := 47) rfl rfl (congrArg Value.bool rfl) (by kernel_rfl) rfl (QO.ibin (by rfl) (by rfl) trivial) ?_)
  refine RT.takeOn (i := 14) (dj := 47) rfl rfl (congrArg Value.bool rfl) (by kernel_rfl) rfl (QO.fieldAddr fo49_2 (by rfl)) ?_
  first | (refine RT.takeOn (i := 15) (dj := 47) rfl rfl (congrArg Value.bool rfl) (by kernel_rfl) rfl (QO.load ty3 (by rfl) (by repeat (first | exact List.Mem.head _ | refine List.Mem.tail _ ?_)) (by rfl)) ?_) | (refine RT.takeOn (i := 15) (dj := 47) rfl rfl (congrArg Value.bool rfl) (by kernel_rfl) rfl (QO.loadO ty3 (by rfl) (by assumption)) ?_) | (refine RT.takeOn (i := 15) (dj := 47) rfl rfl (congrArg Value.bool rfl) (by kernel_rfl) rfl (QO.load ty3 (by rfl) (by repeat (first | exact List.Mem.head _ | refine List.Mem.tail _ ?_)) (by assumption)) ?_)
  first | (refine RT.takeOn (i := 16) (dj := 47) rfl rfl (congrArg Value.bool rfl) (by kernel_rfl) rfl (QO.add (by rfl) (by rfl) (by omega) (by omega)) ?_) | (refine RT.takeOn (i := 16) (dj := 47) rfl rfl (congrArg Value.bool rfl) (by kernel_rfl) rfl (QO.ibin (by rfl) (by rfl) trivial) ?_)
  refine RT.takeOn (i := 17) (dj := 47) rfl rfl (congrArg Value.bool rfl) (by kernel_rfl) rfl (QO.fieldAddr fo49_3 (by rfl)) ?_
  first | (refine RT.takeOn (i := 18) (dj := 47) rfl rfl (congrArg Value.bool rfl) (by kernel_rfl) rfl (QO.load ty3 (by rfl) (by repeat (first | exact List.Mem.head _ | refine List.Mem.tail _ ?_)) (by rfl)) ?_) | (refine RT.takeOn (i := 18) (dj := 47) rfl rfl (congrArg Value.bool rfl) (by kernel_rfl) rfl (QO.loadO ty3 (by rfl) (by assumption)) ?_) | (refine RT.takeOn (i := 18) (dj := 47) rfl rfl (congrArg Value.bool rfl) (by kernel_rfl) rfl (QO.load ty3 (by rfl) (by repeat (first | exact List.Mem.head _ | refine List.Mem.tail _ ?_)) (by assumption)) ?_)
  first | (refine RT.takeOn (i := 19) (dj := 47) rfl rfl (congrArg Value.bool rfl) (by kernel_rfl) rfl (QO.add (by rfl) (by rfl) (by omega) (by omega)) ?_) | (refine RT.takeOn (i := 19) (dj := 47) rfl rfl (congrArg Value.bool rfl) (by kernel_rfl) rfl (QO.ibin (by rfl) (by rfl) trivial) ?_)
  refine RT.takeOn (i := 20) (dj := 47) rfl rfl (congrArg Value.bool rfl) (by kernel_rfl) rfl (QO.fieldAddr fo49_4 (by rfl)) ?_
  first | (refine RT.takeOn (i := 21) (dj := 47) rfl rfl (congrArg Value.bool rfl) (by kernel_rfl) rfl (QO.load ty3 (by rfl) (by repeat (first | exact List.Mem.head _ | refine List.Mem.tail _ ?_)) (by rfl)) ?_) | (refine RT.takeOn (i := 21) (dj := 47) rfl rfl (congrArg Value.bool rfl) (by kernel_rfl) rfl (QO.loadO ty3 (by rfl) (by assumption)) ?_) | (refine RT.takeOn (i := 21) (dj := 47) rfl rfl (congrArg Value.bool rfl) (by kernel_rfl) rfl (QO.load ty3 (by rfl) (by repeat (first | exact List.Mem.head _ | refine List.Mem.tail _ ?_)) (by assumption)) ?_)
  first | (refine RT.takeOn (i := 22) (dj := 47) rfl rfl (congrArg Value.bool rfl) (by kernel_rfl) rfl (QO.add (by rfl) (by rfl) (by omega) (by omega)) ?_) | (refine RT.takeOn (i := 22) (dj := 47) rfl rfl (congrArg Value.bool rfl) (by kernel_rfl) rfl (QO.ibin (by rfl) (by rfl) trivial) ?_)
  refine RT.takeOn (i := 23) (dj := 47) rfl rfl (congrArg Value.bool rfl) (by kernel_rfl) rfl (QO.fieldAddr fo26_1 (by rfl)) ?_
  first | (refine RT.takeOn (i := 24) (dj := 47) rfl rfl (congrArg Value.bool rfl) (by kernel_rfl) rfl (QO.load ty24 (by rfl) (by repeat (first | exact List.Mem.head _ | refine List.Mem.tail _ ?_)) (by rfl)) ?_) | (refine RT.takeOn (i := 24) (dj := 47) rfl rfl (congrArg Value.bool rfl) (by kernel_rfl) rfl (QO.loadO ty24 (by rfl) (by assumption)) ?_) | (refine RT.takeOn (i := 24) (dj := 47) rfl rfl (congrArg Value.bool rfl) (by kernel_rfl) rfl (QO.load ty24 (by rfl) (by repeat (first | exact List.Mem.head _ | refine List.Mem.tail _ ?_)) (by assumption)) ?_)
  refine RT.takeOn (i := 25) (dj := 47) rfl rfl (congrArg Value.bool rfl) (by kernel_rfl) rfl (QO.lenS Try.underlying24 (by rfl)) ?_
  refine RT.takeOnv (i := 26) (dj := 47) rfl rfl (congrArg Value.bool rfl) (by kernel_rfl) rfl (QO.neq (by rfl) (by rfl)) (congrArg Value.bool (bne_eq_false_iff_eq.2 (by omega))) ?_
  refine RT.take (i := 27) rfl (by kernel_rfl) rfl (QO.pickF (by rfl) rfl (by rfl)) ?_
  refine RT.done (by kernel_rfl) ?_
  refine thenC_n ?_
  refine CS.condF (by rfl) rfl ?_
  refine CS.skip ?_
  refine thenC_n ?_
  refine CS.seq ?_
  refine CS.seq ?_
  refine CS.region ?_
  refine RS.q rfl (QO.move) ?_
  refine RS.call rfl (by rfl) ok19 (by rfl) (fun w ho => chOk ch _ h0 h4) ?_
  rintro _ _ ⟨rfl, rfl⟩
  refine RS.q rfl (QO.assign) ?_
  refine RS.nil ?_
  refine thenC_n ?_
  refine CS.seq ?_
  refine CS.region ?_
  refine RS.q rfl (QO.move) ?_
  refine RS.q rfl (QO.neq (by rfl) (by rfl)) ?_
  refine RS.nil ?_
  refine thenC_n ?_
  refine CS.condF (by rfl) rfl ?_
  refine CS.skip ?_
  refine thenC_n ?_
  refine CS.seq ?_
  refine CS.region ?_
  first | (refine RS.q rfl (QO.loadB ty26 (by rfl) (by repeat (first | exact List.Mem.head _ | refine List.Mem.tail _ ?_)) (by rfl)) ?_) | (refine RS.q rfl (QO.loadA ty26 (by rfl) (by repeat (first | exact List.Mem.head _ | refine List.Mem.tail _ ?_)) (by rfl) (by rfl)) ?_) | (refine RS.q rfl (QO.loadOA ty26 (by rfl) (by assumption) (by rfl)) ?_)
  refine RS.q rfl (QO.move) ?_
  refine RS.call rfl (by rfl) ok21 (by rfl) (fun w ho => rExtent X Y a b _ _ _ ys ch _ rfl (FS.blk' ho (by repeat (first | exact List.Mem.head _ | refine List.Mem.tail _ ?_))) hfr hN (Nat.le_refl _) hcm ha hb h32 h0 h4 hab (fun hk => means (fun x hx => (kp_ok h32 ch (a * b) x hx).1) hk (Nat.lt_of_le_of_lt (kp_len ys ch (a * b)) hab))) ?_
  rintro _ _ ⟨L2, G2, M2, rfl, hE2, rfl⟩
  have hu := ext_uniq (kp_ok h32 ch (a * b)) hE1 hE2
  refine RS.alloc rfl ty44 ?_
  intro g14
  first | refine RS.storeB ty44 (by rfl) (by rfl) (by rfl) (by rfl) (by rfl) (by repeat (first | exact Upd.head | apply Upd.tail)) (by rfl) ?_ | refine RS.storeP ty44 (by rfl) (by rfl) (by rfl) (by rfl) (by rfl) (by repeat (first | exact Upd.head | apply Upd.tail)) (by rfl) ?_
  refine RS.nil ?_
  refine thenC_n ?_
  refine CS.seq ?_
  refine CS.seq ?_
  refine CS.region ?_
  refine RS.q rfl (QO.move) ?_
  refine RS.q rfl (QO.neq (by rfl) (by rfl)) ?_
  refine RS.q rfl (QO.move) ?_
  refine RS.on (dj := 93) rfl (congrArg Value.bool rfl) ?_
  refine RS.q rfl (QO.fieldAddr fo44_0 (by rfl)) ?_
  refine RS.on (dj := 93) rfl (congrArg Value.bool rfl) ?_
  first | (refine RS.q rfl (QO.load ty29 (by rfl) (by repeat (first | exact List.Mem.head _ | refine List.Mem.tail _ ?_)) (by rfl)) ?_) | (refine RS.q rfl (QO.loadO ty29 (by rfl) (by assumption)) ?_) | (refine RS.q rfl (QO.load ty29 (by rfl) (by repeat (first | exact List.Mem.head _ | refine List.Mem.tail _ ?_)) (by assumption)) ?_)
  refine RS.on (dj := 93) rfl (congrArg Value.bool rfl) ?_
  refine RS.q rfl (QO.fieldAddr fo44_0 (by rfl)) ?_
  refine RS.on (dj := 93) rfl (congrArg Value.bool rfl) ?_
  first | (refine RS.q rfl (QO.load ty29 (by rfl) (by repeat (first | exact List.Mem.head _ | refine List.Mem.tail _ ?_)) (by rfl)) ?_) | (refine RS.q rfl (QO.loadO ty29 (by rfl) (by assumption)) ?_) | (refine RS.q rfl (QO.load ty29 (by rfl) (by repeat (first | exact List.Mem.head _ | refine List.Mem.tail _ ?_)) (by assumption)) ?_)
  refine RS.on (dj := 93) rfl (congrArg Value.bool rfl) ?_
  refine RS.call rfl (by rfl) ok20 (by rfl) (fun w ho => exact_true _ _ hu.1 _) ?_
  rintro _ _ ⟨rfl, rfl⟩
  refine RS.on (dj := 93) rfl (congrArg Value.bool rfl) ?_
  refine RS.q rfl (QO.not (by rfl)) ?_
  refine RS.q rfl (QO.pickF (by rfl) rfl (by rfl)) ?_
  refine RS.q rfl (QO.move) ?_
  refine RS.on (dj := 101) rfl (congrArg Value.bool rfl) ?_
  refine RS.q rfl (QO.fieldAddr fo44_1 (by rfl)) ?_
  refine RS.on (dj := 101) rfl (congrArg Value.bool rfl) ?_
  first | (refine RS.q rfl (QO.load ty29 (by rfl) (by repeat (first | exact List.Mem.head _ | refine List.Mem.tail _ ?_)) (by rfl)) ?_) | (refine RS.q rfl (QO.loadO ty29 (by rfl) (by assumption)) ?_) | (refine RS.q rfl (QO.load ty29 (by rfl) (by repeat (first | exact List.Mem.head _ | refine List.Mem.tail _ ?_)) (by assumption)) ?_)
  refine RS.on (dj := 101) rfl (congrArg Value.bool rfl) ?_
  refine RS.q rfl (QO.fieldAddr fo44_1 (by rfl)) ?_
  refine RS.on (dj := 101) rfl (congrArg Value.bool rfl) ?_
  first | (refine RS.q rfl (QO.load ty29 (by rfl) (by repeat (first | exact List.Mem.head _ | refine List.Mem.tail _ ?_)) (by rfl)) ?_) | (refine RS.q rfl (QO.loadO ty29 (by rfl) (by assumption)) ?_) | (refine RS.q rfl (QO.load ty29 (by rfl) (by repeat (first | exact List.Mem.head _ | refine List.Mem.tail _ ?_)) (by assumption)) ?_)
  refine RS.on (dj := 101) rfl (congrArg Value.bool rfl) ?_
  refine RS.call rfl (by rfl) ok20 (by rfl) (fun w ho => exact_true _ _ hu.2.1 _) ?_
  rintro _ _ ⟨rfl, rfl⟩
  refine RS.on (dj := 101) rfl (congrArg Value.bool rfl) ?_
  refine RS.q rfl (QO.not (by rfl)) ?_
  refine RS.q rfl (QO.pickF (by rfl) rfl (by rfl)) ?_
  refine RS.q rfl (QO.move) ?_
  refine RS.on (dj := 109) rfl (congrArg Value.bool rfl) ?_
  refine RS.q rfl (QO.fieldAddr fo44_2 (by rfl)) ?_
  refine RS.on (dj := 109) rfl (congrArg Value.bool rfl) ?_
  first | (refine RS.q rfl (QO.load ty29 (by rfl) (by repeat (first | exact List.Mem.head _ | refine List.Mem.tail _ ?_)) (by rfl)) ?_) | (refine RS.q rfl (QO.loadO ty29 (by rfl) (by assumption)) ?_) | (refine RS.q rfl (QO.load ty29 (by rfl) (by repeat (first | exact List.Mem.head _ | refine List.Mem.tail _ ?_)) (by assumption)) ?_)
  refine RS.on (dj := 109) rfl (congrArg Value.bool rfl) ?_
  refine RS.q rfl (QO.fieldAddr fo44_2 (by rfl)) ?_
  refine RS.on (dj := 109) rfl (congrArg Value.bool rfl) ?_
  first | (refine RS.q rfl (QO.load ty29 (by rfl) (by repeat (first | exact List.Mem.head _ | refine List.Mem.tail _ ?_)) (by rfl)) ?_) | (refine RS.q rfl (QO.loadO ty29 (by rfl) (by assumption)) ?_) | (refine RS.q rfl (QO.load ty29 (by rfl) (by repeat (first | exact List.Mem.head _ | refine List.Mem.tail _ ?_)) (by assumption)) ?_)
  refine RS.on (dj := 109) rfl (congrArg Value.bool rfl) ?_
  refine RS.call rfl (by rfl) ok20 (by rfl) (fun w ho => exact_true _ _ hu.2.2 _) ?_
  rintro _ _ ⟨rfl, rfl⟩
  refine RS.on (dj := 109) rfl (congrArg Value.bool rfl) ?_
  refine RS.q rfl (QO.not (by rfl)) ?_
  refine RS.q rfl (QO.pickF (by rfl) rfl (by rfl)) ?_
  refine RS.q rfl (QO.move) ?_
  refine RS.on (dj := 117) rfl (congrArg Value.bool rfl) ?_
  refine RS.q rfl (QO.fieldAddr fo44_3 (by rfl)) ?_
  refine RS.on (dj := 117) rfl (congrArg Value.bool rfl) ?_
  first | (refine RS.q rfl (QO.load ty3 (by rfl) (by repeat (first | exact List.Mem.head _ | refine List.Mem.tail _ ?_)) (by rfl)) ?_) | (refine RS.q rfl (QO.loadO ty3 (by rfl) (by assumption)) ?_) | (refine RS.q rfl (QO.load ty3 (by rfl) (by repeat (first | exact List.Mem.head _ | refine List.Mem.tail _ ?_)) (by assumption)) ?_)
  refine RS.on (dj := 117) rfl (congrArg Value.bool rfl) ?_
  refine RS.q rfl (QO.fieldAddr fo44_3 (by rfl)) ?_
  refine RS.on (dj := 117) rfl (congrArg Value.bool rfl) ?_
  first | (refine RS.q rfl (QO.load ty3 (by rfl) (by repeat (first | exact List.Mem.head _ | refine List.Mem.tail _ ?_)) (by rfl)) ?_) | (refine RS.q rfl (QO.loadO ty3 (by rfl) (by assumption)) ?_) | (refine RS.q rfl (QO.load ty3 (by rfl) (by repeat (first | exact List.Mem.head _ | refine List.Mem.tail _ ?_)) (by assumption)) ?_)
  refine RS.on (dj := 117) rfl (congrArg Value.bool rfl) ?_
  refine RS.qv rfl (QO.neq (by rfl) (by rfl)) (congrArg Value.bool (bne_self_eq_false _)) ?_
  refine RS.q rfl (QO.pickF (by rfl) rfl (by rfl)) ?_
  refine RS.nil ?_
  refine thenC_n ?_
  refine CS.condF (by rfl) rfl ?_
  refine CS.skip ?_
  refine thenC_n ?_
  refine CS.seq ?_
  refine CS.region ?_
  first | (refine RS.q rfl (QO.loadB ty26 (by rfl) (by repeat (first | exact List.Mem.head _ | refine List.Mem.tail _ ?_)) (by rfl)) ?_) | (refine RS.q rfl (QO.loadA ty26 (by rfl) (by repeat (first | exact List.Mem.head _ | refine List.Mem.tail _ ?_)) (by rfl) (by rfl)) ?_) | (refine RS.q rfl (QO.loadOA ty26 (by rfl) (by assumption) (by rfl)) ?_)
  refine RS.q rfl (QO.move) ?_
  refine RS.q rfl (QO.move) ?_
  refine RS.call rfl (by rfl) ok22 (by rfl) (fun w ho => rRankPt X Y a b _ _ _ ys ch _ rfl (FS.blk' ho (by repeat (first | exact List.Mem.head _ | refine List.Mem.tail _ ?_))) hfr p hp) ?_
  rintro _ _ ⟨rfl, rfl⟩
  refine RS.q rfl (QO.move) ?_
  refine RS.q rfl (QO.extract (by rfl) (by rfl)) ?_
  refine RS.q rfl (QO.extract (by rfl) (by rfl)) ?_
  refine RS.q rfl (QO.assign) ?_
  refine RS.q rfl (QO.assign) ?_
  refine RS.nil ?_
  refine thenC_n ?_
  refine CS.seq ?_
  refine CS.region ?_
  refine RS.q rfl (QO.move) ?_
  refine RS.q rfl (QO.move) ?_
  refine RS.q rfl (QO.eql (by rfl) (by rfl)) ?_
  refine RS.q rfl (QO.move) ?_
  refine RS.on (dj := 134) rfl (congrArg Value.bool rfl) ?_
  refine RS.q rfl (QO.move) ?_
  refine RS.on (dj := 134) rfl (congrArg Value.bool rfl) ?_
  refine RS.q rfl (QO.move) ?_
  refine RS.on (dj := 134) rfl (congrArg Value.bool rfl) ?_
  refine RS.call rfl (by rfl) ok20 (by rfl) (fun w ho => exact_true 0 0 rfl _) ?_
  rintro _ _ ⟨rfl, rfl⟩
  refine RS.q rfl (QO.pickT (by rfl) rfl (by rfl)) ?_
  refine RS.q rfl (QO.assign) ?_
  refine RS.nil ?_
  refine thenC_n ?_
  refine CS.ret ?_
  refine retQ.mk (H' := []) (.inr rfl) (RVs.tmp (by rfl) RVs.nil) (List.nil_sublist _) ?_
  exact ⟨rfl, rfl⟩

set_option maxHeartbeats 4000000 in
set_option maxRecDepth 100000 in
theorem extOk (x y wi he : Int) (A : Option Addr) (n c : Nat) (xs : List Nat) (ch : Int) (p : Nat) (W : World) (hn : xs.length = n) (hA : FS W A xs) (hlx : n ≤ maxLen) (hx32 : ∀ u ∈ xs, u < 4294967296) (h0 : 0 ≤ ch) (h4 : ch ≤ 4) (hp : p ≤ 100) : Fn_ Try.prog 4 #[.agg #[iv x, iv y, iv wi, iv he, .slice A n c], iv ch, iv (p : Int)] W (fun v H => v = .bool true ∧ H = []) := by
  refine Fn_.intro Try.func4 rfl rfl (by rfl) ?_
  refine CS.seq ?_
  refine CS.region ?_
  refine RS.box rfl (by rfl) (by rfl) ?_
  intro g3
  refine RS.q rfl (QO.assign) ?_
  refine RS.nil ?_
  refine thenC_n ?_
  refine CS.seq ?_
  refine CS.seq ?_
  refine CS.region ?_
  refine RS.call rfl (by rfl) ok9 (by rfl) (fun w ho => landed _) ?_
  rintro _ _ ⟨rfl, rfl⟩
  refine RS.q rfl (QO.not (by rfl)) ?_
  refine RS.nil ?_
  refine thenC_n ?_
  refine CS.condF (by rfl) rfl ?_
  refine CS.skip ?_
  refine thenC_n ?_
  refine CS.seq ?_
  refine CS.region ?_
  first | (refine RS.q rfl (QO.loadB ty26 (by rfl) (by repeat (first | exact List.Mem.head _ | refine List.Mem.tail _ ?_)) (by rfl)) ?_) | (refine RS.q rfl (QO.loadA ty26 (by rfl) (by repeat (first | exact List.Mem.head _ | refine List.Mem.tail _ ?_)) (by rfl) (by rfl)) ?_) | (refine RS.q rfl (QO.loadOA ty26 (by rfl) (by assumption) (by rfl)) ?_)
  refine RS.call rfl (by rfl) ok10 (by rfl) (fun w ho => fit3 x y wi he A n c xs w hn (hA.own ho) hlx hx32) ?_
  intro v20 H20 h20
  obtain ⟨gf, X, Y, a, b, ys, rfl, rfl, hN, ha, hb, hfr, hab, hcm, hn0, h32⟩ := h20
  have hks := kN_sum ys
  first | refine RS.storeB ty26 (by rfl) (by rfl) (by rfl) (by rfl) (by rfl) (by repeat (first | exact Upd.head | apply Upd.tail)) (by rfl) ?_ | refine RS.storeP ty26 (by rfl) (by rfl) (by rfl) (by rfl) (by rfl) (by repeat (first | exact Upd.head | apply Upd.tail)) (by rfl) ?_
  refine RS.nil ?_
  refine thenC_n ?_
  refine CS.seq ?_
  refine CS.region ?_
  first | (refine RS.q rfl (QO.loadB ty26 (by rfl) (by repeat (first | exact List.Mem.head _ | refine List.Mem.tail _ ?_)) (by rfl)) ?_) | (refine RS.q rfl (QO.loadA ty26 (by rfl) (by repeat (first | exact List.Mem.head _ | refine List.Mem.tail _ ?_)) (by rfl) (by rfl)) ?_) | (refine RS.q rfl (QO.loadOA ty26 (by rfl) (by assumption) (by rfl)) ?_)
  refine RS.q rfl (QO.move) ?_
  refine RS.call rfl (by rfl) ok15 (by rfl) (fun w ho => pExtent X Y a b _ _ _ ys ch _ rfl (FS.blk' ho (by repeat (first | exact List.Mem.head _ | refine List.Mem.tail _ ?_))) hfr hN (Nat.le_refl _) hcm ha hb h32 h0 h4) ?_
  rintro _ _ ⟨L1, G1, M1, rfl, hE1, rfl⟩
  refine RS.q rfl (QO.move) ?_
  refine RS.q rfl (QO.extract (by rfl) (by rfl)) ?_
  refine RS.q rfl (QO.extract (by rfl) (by rfl)) ?_
  refine RS.alloc rfl ty44 ?_
  intro g7
  first | refine RS.storeB ty44 (by rfl) (by rfl) (by rfl) (by rfl) (by rfl) (by repeat (first | exact Upd.head | apply Upd.tail)) (by rfl) ?_ | refine RS.storeP ty44 (by rfl) (by rfl) (by rfl) (by rfl) (by rfl) (by repeat (first | exact Upd.head | apply Upd.tail)) (by rfl) ?_
  refine RS.q rfl (QO.assign) ?_
  refine RS.nil ?_
  refine thenC_n ?_
  refine CS.seq ?_
  refine CS.region ?_
  first | (refine RS.q rfl (QO.loadB ty26 (by rfl) (by repeat (first | exact List.Mem.head _ | refine List.Mem.tail _ ?_)) (by rfl)) ?_) | (refine RS.q rfl (QO.loadA ty26 (by rfl) (by repeat (first | exact List.Mem.head _ | refine List.Mem.tail _ ?_)) (by rfl) (by rfl)) ?_) | (refine RS.q rfl (QO.loadOA ty26 (by rfl) (by assumption) (by rfl)) ?_)
  refine RS.q rfl (QO.move) ?_
  refine RS.q rfl (QO.move) ?_
  refine RS.call rfl (by rfl) ok16 (by rfl) (fun w ho => pRank X Y a b _ _ _ ys ch _ rfl (FS.blk' ho (by repeat (first | exact List.Mem.head _ | refine List.Mem.tail _ ?_))) hfr hN (Nat.le_refl _) hcm ha hb h32 h0 h4 p hp) ?_
  rintro _ _ ⟨d1, rfl, m1, s1, rfl⟩
  refine RS.q rfl (QO.move) ?_
  refine RS.q rfl (QO.extract (by rfl) (by rfl)) ?_
  refine RS.q rfl (QO.extract (by rfl) (by rfl)) ?_
  refine RS.q rfl (QO.assign) ?_
  refine RS.q rfl (QO.assign) ?_
  refine RS.nil ?_
  refine thenC_n ?_
  refine CS.seq ?_
  refine CS.region ?_
  first | (refine RS.q rfl (QO.loadB ty26 (by rfl) (by repeat (first | exact List.Mem.head _ | refine List.Mem.tail _ ?_)) (by rfl)) ?_) | (refine RS.q rfl (QO.loadA ty26 (by rfl) (by repeat (first | exact List.Mem.head _ | refine List.Mem.tail _ ?_)) (by rfl) (by rfl)) ?_) | (refine RS.q rfl (QO.loadOA ty26 (by rfl) (by assumption) (by rfl)) ?_)
  refine RS.call rfl (by rfl) ok17 (by rfl) (fun w ho => pOdd' X Y a b _ _ ys _ (FS.blk' ho (by repeat (first | exact List.Mem.head _ | refine List.Mem.tail _ ?_))) hfr (by omega) (by omega)) ?_
  rintro _ _ ⟨rfl, rfl⟩
  refine RS.q rfl (QO.move) ?_
  refine RS.q rfl (QO.extract (by rfl) (by rfl)) ?_
  refine RS.q rfl (QO.extract (by rfl) (by rfl)) ?_
  refine RS.alloc rfl ty49 ?_
  intro g11
  first | refine RS.storeB ty49 (by rfl) (by rfl) (by rfl) (by rfl) (by rfl) (by repeat (first | exact Upd.head | apply Upd.tail)) (by rfl) ?_ | refine RS.storeP ty49 (by rfl) (by rfl) (by rfl) (by rfl) (by rfl) (by repeat (first | exact Upd.head | apply Upd.tail)) (by rfl) ?_
  refine RS.q rfl (QO.assign) ?_
  refine RS.nil ?_
  refine thenC_n ?_
  refine CS.seq ?_
  refine CS.seq ?_
  refine CS.draw 28 rfl (by kernel_rfl) (by kernel_rfl) ?_
  refine RT.take (i := 0) rfl (by kernel_rfl) rfl (QO.move) ?_
  refine RT.take (i := 1) rfl (by kernel_rfl) rfl (QO.neq (by rfl) (by rfl)) ?_
  refine RT.take (i := 2) rfl (by kernel_rfl) rfl (QO.move) ?_
  first | (refine RT.takeOn (i := 3) (dj := 41) rfl rfl (congrArg Value.bool rfl) (by kernel_rfl) rfl (QO.loadB ty49 (by rfl) (by repeat (first | exact List.Mem.head _ | refine List.Mem.tail _ ?_)) (by rfl)) ?_) | (refine RT.takeOn (i := 3) (dj := 41) rfl rfl (congrArg Value.bool rfl) (by kernel_rfl) rfl (QO.loadA ty49 (by rfl) (by repeat (first | exact List.Mem.head _ | refine List.Mem.tail _ ?_)) (by rfl) (by rfl)) ?_) | (refine RT.takeOn (i := 3) (dj := 41) rfl rfl (congrArg Value.bool rfl) (by kernel_rfl) rfl (QO.loadOA ty49 (by rfl) (by assumption) (by rfl)) ?_)
  first | (refine RT.takeOn (i := 4) (dj := 41) rfl rfl (congrArg Value.bool rfl) (by kernel_rfl) rfl (QO.loadB ty26 (by rfl) (by repeat (first | exact List.Mem.head _ | refine List.Mem.tail _ ?_)) (by rfl)) ?_) | (refine RT.takeOn (i := 4) (dj := 41) rfl rfl (congrArg Value.bool rfl) (by kernel_rfl) rfl (QO.loadA ty26 (by rfl) (by repeat (first | exact List.Mem.head _ | refine List.Mem.tail _ ?_)) (by rfl) (by rfl)) ?_) | (refine RT.takeOn (i := 4) (dj := 41) rfl rfl (congrArg Value.bool rfl) (by kernel_rfl) rfl (QO.loadOA ty26 (by rfl) (by assumption) (by rfl)) ?_)
  refine RT.one (i := 5) (by kernel_rfl) rfl rfl ?_
  refine RS.on (dj := 41) rfl (congrArg Value.bool rfl) ?_
  refine RS.call rfl (by rfl) ok18 (by rfl) (fun w ho => rOdd' X Y a b _ _ ys _ (FS.blk' ho (by repeat (first | exact List.Mem.head _ | refine List.Mem.tail _ ?_))) h32 (by omega) (by omega)) ?_
  rintro _ _ ⟨rfl, rfl⟩
  refine RS.nil ⟨(by repeat (first | exact List.Sublist.refl _ | exact List.nil_sublist _ | refine List.Sublist.cons_cons _ ?_ | refine List.Sublist.cons _ ?_ | exact Sbp.refl | exact Sbp.nil | refine Sbp.cons (by repeat (first | exact Rem.head | apply Rem.tail)) ?_ | exact Sbp.app | refine Sbp.skip ?_ | exact List.sublist_append_left _ _ | exact List.sublist_append_right _ _)), ?_⟩
  refine RT.takeOnv (i := 6) (dj := 41) rfl rfl (congrArg Value.bool rfl) (by kernel_rfl) rfl (QO.sneq (zs := [(kN ys 0 : Int), (kN ys 1 : Int), (kN ys 2 : Int), (kN ys 3 : Int), (kN ys 4 : Int)]) (ws := [(kN ys 0 : Int), (kN ys 1 : Int), (kN ys 2 : Int), (kN ys 3 : Int), (kN ys 4 : Int)]) eqt49 (by decide) (by rfl) (by rfl) (by rfl) (by rfl)) (congrArg Value.bool (bne_self_eq_false _)) ?_
  refine RT.take (i := 7) rfl (by kernel_rfl) rfl (QO.pickF (by rfl) rfl (by rfl)) ?_
  refine RT.take (i := 8) rfl (by kernel_rfl) rfl (QO.move) ?_
  refine RT.takeOn (i := 9) (dj := 47) rfl rfl (congrArg Value.bool rfl) (by kernel_rfl) rfl (QO.fieldAddr fo49_0 (by rfl)) ?_
  first | (refine RT.takeOn (i := 10) (dj := 47) rfl rfl (congrArg Value.bool rfl) (by kernel_rfl) rfl (QO.load ty3 (by rfl) (by repeat (first | exact List.Mem.head _ | refine List.Mem.tail _ ?_)) (by rfl)) ?_) | (refine RT.takeOn (i := 10) (dj := 47) rfl rfl (congrArg Value.bool rfl) (by kernel_rfl) rfl (QO.loadO ty3 (by rfl) (by assumption)) ?_) | (refine RT.takeOn (i := 10) (dj := 47) rfl rfl (congrArg Value.bool rfl) (by kernel_rfl) rfl (QO.load ty3 (by rfl) (by repeat (first | exact List.Mem.head _ | refine List.Mem.tail _ ?_)) (by assumption)) ?_)
  refine RT.takeOn (i := 11) (dj := 47) rfl rfl (congrArg Value.bool rfl) (by kernel_rfl) rfl (QO.fieldAddr fo49_1 (by rfl)) ?_
  first | (refine RT.takeOn (i := 12) (dj := 47) rfl rfl (congrArg Value.bool rfl) (by kernel_rfl) rfl (QO.load ty3 (by rfl) (by repeat (first | exact List.Mem.head _ | refine List.Mem.tail _ ?_)) (by rfl)) ?_) | (refine RT.takeOn (i := 12) (dj := 47) rfl rfl (congrArg Value.bool rfl) (by kernel_rfl) rfl (QO.loadO ty3 (by rfl) (by assumption)) ?_) | (refine RT.takeOn (i := 12) (dj := 47) rfl rfl (congrArg Value.bool rfl) (by kernel_rfl) rfl (QO.load ty3 (by rfl) (by repeat (first | exact List.Mem.head _ | refine List.Mem.tail _ ?_)) (by assumption)) ?_)
  first | (refine RT.takeOn (i := 13) (dj := 47) rfl rfl (congrArg Value.bool rfl) (by kernel_rfl) rfl (QO.add (by rfl) (by rfl) (by omega) (by omega)) ?_) | (refine RT.takeOn (i := 13) (dj := 47) rfl rfl (congrArg Value.bool rfl) (by kernel_rfl) rfl (QO.ibin (by rfl) (by rfl) trivial) ?_)
  refine RT.takeOn (i := 14) (dj := 47) rfl rfl (congrArg Value.bool rfl) (by kernel_rfl) rfl (QO.fieldAddr fo49_2 (by rfl)) ?_
  first | (refine RT.takeOn (i := 15) (dj := 47) rfl rfl (congrArg Value.bool rfl) (by kernel_rfl) rfl (QO.load ty3 (by rfl) (by repeat (first | exact List.Mem.head _ | refine List.Mem.tail _ ?_)) (by rfl)) ?_) | (refine RT.takeOn (i := 15) (dj := 47) rfl rfl (congrArg Value.bool rfl) (by kernel_rfl) rfl (QO.loadO ty3 (by rfl) (by assumption)) ?_) | (refine RT.takeOn (i := 15) (dj := 47) rfl rfl (congrArg Value.bool rfl) (by kernel_rfl) rfl (QO.load ty3 (by rfl) (by repeat (first | exact List.Mem.head _ | refine List.Mem.tail _ ?_)) (by assumption)) ?_)
  first | (refine RT.takeOn (i := 16) (dj := 47) rfl rfl (congrArg Value.bool rfl) (by kernel_rfl) rfl (QO.add (by rfl) (by rfl) (by omega) (by omega)) ?_) | (refine RT.takeOn (i := 16) (dj := 47) rfl rfl (congrArg Value.bool rfl) (by kernel_rfl) rfl (QO.ibin (by rfl) (by rfl) trivial) ?_)
  refine RT.takeOn (i := 17) (dj := 47) rfl rfl (congrArg Value.bool rfl) (by kernel_rfl) rfl (QO.fieldAddr fo49_3 (by rfl)) ?_
  first | (refine RT.takeOn (i := 18) (dj := 47) rfl rfl (congrArg Value.bool rfl) (by kernel_rfl) rfl (QO.load ty3 (by rfl) (by repeat (first | exact List.Mem.head _ | refine List.Mem.tail _ ?_)) (by rfl)) ?_) | (refine RT.takeOn (i := 18) (dj := 47) rfl rfl (congrArg Value.bool rfl) (by kernel_rfl) rfl (QO.loadO ty3 (by rfl) (by assumption)) ?_) | (refine RT.takeOn (i := 18) (dj := 47) rfl rfl (congrArg Value.bool rfl) (by kernel_rfl) rfl (QO.load ty3 (by rfl) (by repeat (first | exact List.Mem.head _ | refine List.Mem.tail _ ?_)) (by assumption)) ?_)
  first | (refine RT.takeOn (i := 19) (dj := 47) rfl rfl (congrArg Value.bool rfl) (by kernel_rfl) rfl (QO.add (by rfl) (by rfl) (by omega) (by omega)) ?_) | (refine RT.takeOn (i := 19) (dj := 47) rfl rfl (congrArg Value.bool rfl) (by kernel_rfl) rfl (QO.ibin (by rfl) (by rfl) trivial) ?_)
  refine RT.takeOn (i := 20) (dj := 47) rfl rfl (congrArg Value.bool rfl) (by kernel_rfl) rfl (QO.fieldAddr fo49_4 (by rfl)) ?_
  first | (refine RT.takeOn (i := 21) (dj := 47) rfl rfl (congrArg Value.bool rfl) (by kernel_rfl) rfl (QO.load ty3 (by rfl) (by repeat (first | exact List.Mem.head _ | refine List.Mem.tail _ ?_)) (by rfl)) ?_) | (refine RT.takeOn (i := 21) (dj := 47) rfl rfl (congrArg Value.bool rfl) (by kernel_rfl) rfl (QO.loadO ty3 (by rfl) (by assumption)) ?_) | (refine RT.takeOn (i := 21) (dj := 47) rfl rfl (congrArg Value.bool rfl) (by kernel_rfl) rfl (QO.load ty3 (by rfl) (by repeat (first | exact List.Mem.head _ | refine List.Mem.tail _ ?_)) (by assumption)) ?_)
  first | (refine RT.takeOn (i := 22) (dj := 47) rfl rfl (congrArg Value.bool rfl) (by kernel_rfl) rfl (QO.add (by rfl) (by rfl) (by omega) (by omega)) ?_) | (refine RT.takeOn (i := 22) (dj := 47) rfl rfl (congrArg Value.bool rfl) (by kernel_rfl) rfl (QO.ibin (by rfl) (by rfl) trivial) ?_)
  refine RT.takeOn (i := 23) (dj := 47) rfl rfl (congrArg Value.bool rfl) (by kernel_rfl) rfl (QO.fieldAddr fo26_1 (by rfl)) ?_
  first | (refine RT.takeOn (i := 24) (dj := 47) rfl rfl (congrArg Value.bool rfl) (by kernel_rfl) rfl (QO.load ty24 (by rfl) (by repeat (first | exact List.Mem.head _ | refine List.Mem.tail _ ?_)) (by rfl)) ?_) | (refine RT.takeOn (i := 24) (dj := 47) rfl rfl (congrArg Value.bool rfl) (by kernel_rfl) rfl (QO.loadO ty24 (by rfl) (by assumption)) ?_) | (refine RT.takeOn (i := 24) (dj := 47) rfl rfl (congrArg Value.bool rfl) (by kernel_rfl) rfl (QO.load ty24 (by rfl) (by repeat (first | exact List.Mem.head _ | refine List.Mem.tail _ ?_)) (by assumption)) ?_)
  refine RT.takeOn (i := 25) (dj := 47) rfl rfl (congrArg Value.bool rfl) (by kernel_rfl) rfl (QO.lenS Try.underlying24 (by rfl)) ?_
  refine RT.takeOnv (i := 26) (dj := 47) rfl rfl (congrArg Value.bool rfl) (by kernel_rfl) rfl (QO.neq (by rfl) (by rfl)) (congrArg Value.bool (bne_eq_false_iff_eq.2 (by omega))) ?_
  refine RT.take (i := 27) rfl (by kernel_rfl) rfl (QO.pickF (by rfl) rfl (by rfl)) ?_
  refine RT.done (by kernel_rfl) ?_
  refine thenC_n ?_
  refine CS.condF (by rfl) rfl ?_
  refine CS.skip ?_
  refine thenC_n ?_
  refine CS.seq ?_
  refine CS.seq ?_
  refine CS.region ?_
  refine RS.q rfl (QO.move) ?_
  refine RS.call rfl (by rfl) ok19 (by rfl) (fun w ho => chOk ch _ h0 h4) ?_
  rintro _ _ ⟨rfl, rfl⟩
  refine RS.q rfl (QO.assign) ?_
  refine RS.nil ?_
  refine thenC_n ?_
  refine CS.seq ?_
  refine CS.region ?_
  refine RS.q rfl (QO.move) ?_
  refine RS.q rfl (QO.neq (by rfl) (by rfl)) ?_
  refine RS.nil ?_
  refine thenC_n ?_
  refine CS.condF (by rfl) rfl ?_
  refine CS.skip ?_
  refine thenC_n ?_
  refine CS.seq ?_
  refine CS.region ?_
  first | (refine RS.q rfl (QO.loadB ty26 (by rfl) (by repeat (first | exact List.Mem.head _ | refine List.Mem.tail _ ?_)) (by rfl)) ?_) | (refine RS.q rfl (QO.loadA ty26 (by rfl) (by repeat (first | exact List.Mem.head _ | refine List.Mem.tail _ ?_)) (by rfl) (by rfl)) ?_) | (refine RS.q rfl (QO.loadOA ty26 (by rfl) (by assumption) (by rfl)) ?_)
  refine RS.q rfl (QO.move) ?_
  refine RS.call rfl (by rfl) ok21 (by rfl) (fun w ho => rExtent X Y a b _ _ _ ys ch _ rfl (FS.blk' ho (by repeat (first | exact List.Mem.head _ | refine List.Mem.tail _ ?_))) hfr hN (Nat.le_refl _) hcm ha hb h32 h0 h4 hab (fun hk => means (fun x hx => (kp_ok h32 ch (a * b) x hx).1) hk (Nat.lt_of_le_of_lt (kp_len ys ch (a * b)) hab))) ?_
  rintro _ _ ⟨L2, G2, M2, rfl, hE2, rfl⟩
  have hu := ext_uniq (kp_ok h32 ch (a * b)) hE1 hE2
  refine RS.alloc rfl ty44 ?_
  intro g14
  first | refine RS.storeB ty44 (by rfl) (by rfl) (by rfl) (by rfl) (by rfl) (by repeat (first | exact Upd.head | apply Upd.tail)) (by rfl) ?_ | refine RS.storeP ty44 (by rfl) (by rfl) (by rfl) (by rfl) (by rfl) (by repeat (first | exact Upd.head | apply Upd.tail)) (by rfl) ?_
  refine RS.nil ?_
  refine thenC_n ?_
  refine CS.seq ?_
  refine CS.seq ?_
  refine CS.region ?_
  refine RS.q rfl (QO.move) ?_
  refine RS.q rfl (QO.neq (by rfl) (by rfl)) ?_
  refine RS.q rfl (QO.move) ?_
  refine RS.on (dj := 93) rfl (congrArg Value.bool rfl) ?_
  refine RS.q rfl (QO.fieldAddr fo44_0 (by rfl)) ?_
  refine RS.on (dj := 93) rfl (congrArg Value.bool rfl) ?_
  first | (refine RS.q rfl (QO.load ty29 (by rfl) (by repeat (first | exact List.Mem.head _ | refine List.Mem.tail _ ?_)) (by rfl)) ?_) | (refine RS.q rfl (QO.loadO ty29 (by rfl) (by assumption)) ?_) | (refine RS.q rfl (QO.load ty29 (by rfl) (by repeat (first | exact List.Mem.head _ | refine List.Mem.tail _ ?_)) (by assumption)) ?_)
  refine RS.on (dj := 93) rfl (congrArg Value.bool rfl) ?_
  refine RS.q rfl (QO.fieldAddr fo44_0 (by rfl)) ?_
  refine RS.on (dj := 93) rfl (congrArg Value.bool rfl) ?_
  first | (refine RS.q rfl (QO.load ty29 (by rfl) (by repeat (first | exact List.Mem.head _ | refine List.Mem.tail _ ?_)) (by rfl)) ?_) | (refine RS.q rfl (QO.loadO ty29 (by rfl) (by assumption)) ?_) | (refine RS.q rfl (QO.load ty29 (by rfl) (by repeat (first | exact List.Mem.head _ | refine List.Mem.tail _ ?_)) (by assumption)) ?_)
  refine RS.on (dj := 93) rfl (congrArg Value.bool rfl) ?_
  refine RS.call rfl (by rfl) ok20 (by rfl) (fun w ho => exact_true _ _ hu.1 _) ?_
  rintro _ _ ⟨rfl, rfl⟩
  refine RS.on (dj := 93) rfl (congrArg Value.bool rfl) ?_
  refine RS.q rfl (QO.not (by rfl)) ?_
  refine RS.q rfl (QO.pickF (by rfl) rfl (by rfl)) ?_
  refine RS.q rfl (QO.move) ?_
  refine RS.on (dj := 101) rfl (congrArg Value.bool rfl) ?_
  refine RS.q rfl (QO.fieldAddr fo44_1 (by rfl)) ?_
  refine RS.on (dj := 101) rfl (congrArg Value.bool rfl) ?_
  first | (refine RS.q rfl (QO.load ty29 (by rfl) (by repeat (first | exact List.Mem.head _ | refine List.Mem.tail _ ?_)) (by rfl)) ?_) | (refine RS.q rfl (QO.loadO ty29 (by rfl) (by assumption)) ?_) | (refine RS.q rfl (QO.load ty29 (by rfl) (by repeat (first | exact List.Mem.head _ | refine List.Mem.tail _ ?_)) (by assumption)) ?_)
  refine RS.on (dj := 101) rfl (congrArg Value.bool rfl) ?_
  refine RS.q rfl (QO.fieldAddr fo44_1 (by rfl)) ?_
  refine RS.on (dj := 101) rfl (congrArg Value.bool rfl) ?_
  first | (refine RS.q rfl (QO.load ty29 (by rfl) (by repeat (first | exact List.Mem.head _ | refine List.Mem.tail _ ?_)) (by rfl)) ?_) | (refine RS.q rfl (QO.loadO ty29 (by rfl) (by assumption)) ?_) | (refine RS.q rfl (QO.load ty29 (by rfl) (by repeat (first | exact List.Mem.head _ | refine List.Mem.tail _ ?_)) (by assumption)) ?_)
  refine RS.on (dj := 101) rfl (congrArg Value.bool rfl) ?_
  refine RS.call rfl (by rfl) ok20 (by rfl) (fun w ho => exact_true _ _ hu.2.1 _) ?_
  rintro _ _ ⟨rfl, rfl⟩
  refine RS.on (dj := 101) rfl (congrArg Value.bool rfl) ?_
  refine RS.q rfl (QO.not (by rfl)) ?_
  refine RS.q rfl (QO.pickF (by rfl) rfl (by rfl)) ?_
  refine RS.q rfl (QO.move) ?_
  refine RS.on (dj := 109) rfl (congrArg Value.bool rfl) ?_
  refine RS.q rfl (QO.fieldAddr fo44_2 (by rfl)) ?_
  refine RS.on (dj := 109) rfl (congrArg Value.bool rfl) ?_
  first | (refine RS.q rfl (QO.load ty29 (by rfl) (by repeat (first | exact List.Mem.head _ | refine List.Mem.tail _ ?_)) (by rfl)) ?_) | (refine RS.q rfl (QO.loadO ty29 (by rfl) (by assumption)) ?_) | (refine RS.q rfl (QO.load ty29 (by rfl) (by repeat (first | exact List.Mem.head _ | refine List.Mem.tail _ ?_)) (by assumption)) ?_)
  refine RS.on (dj := 109) rfl (congrArg Value.bool rfl) ?_
  refine RS.q rfl (QO.fieldAddr fo44_2 (by rfl)) ?_
  refine RS.on (dj := 109) rfl (congrArg Value.bool rfl) ?_
  first | (refine RS.q rfl (QO.load ty29 (by rfl) (by repeat (first | exact List.Mem.head _ | refine List.Mem.tail _ ?_)) (by rfl)) ?_) | (refine RS.q rfl (QO.loadO ty29 (by rfl) (by assumption)) ?_) | (refine RS.q rfl (QO.load ty29 (by rfl) (by repeat (first | exact List.Mem.head _ | refine List.Mem.tail _ ?_)) (by assumption)) ?_)
  refine RS.on (dj := 109) rfl (congrArg Value.bool rfl) ?_
  refine RS.call rfl (by rfl) ok20 (by rfl) (fun w ho => exact_true _ _ hu.2.2 _) ?_
  rintro _ _ ⟨rfl, rfl⟩
  refine RS.on (dj := 109) rfl (congrArg Value.bool rfl) ?_
  refine RS.q rfl (QO.not (by rfl)) ?_
  refine RS.q rfl (QO.pickF (by rfl) rfl (by rfl)) ?_
  refine RS.q rfl (QO.move) ?_
  refine RS.on (dj := 117) rfl (congrArg Value.bool rfl) ?_
  refine RS.q rfl (QO.fieldAddr fo44_3 (by rfl)) ?_
  refine RS.on (dj := 117) rfl (congrArg Value.bool rfl) ?_
  first | (refine RS.q rfl (QO.load ty3 (by rfl) (by repeat (first | exact List.Mem.head _ | refine List.Mem.tail _ ?_)) (by rfl)) ?_) | (refine RS.q rfl (QO.loadO ty3 (by rfl) (by assumption)) ?_) | (refine RS.q rfl (QO.load ty3 (by rfl) (by repeat (first | exact List.Mem.head _ | refine List.Mem.tail _ ?_)) (by assumption)) ?_)
  refine RS.on (dj := 117) rfl (congrArg Value.bool rfl) ?_
  refine RS.q rfl (QO.fieldAddr fo44_3 (by rfl)) ?_
  refine RS.on (dj := 117) rfl (congrArg Value.bool rfl) ?_
  first | (refine RS.q rfl (QO.load ty3 (by rfl) (by repeat (first | exact List.Mem.head _ | refine List.Mem.tail _ ?_)) (by rfl)) ?_) | (refine RS.q rfl (QO.loadO ty3 (by rfl) (by assumption)) ?_) | (refine RS.q rfl (QO.load ty3 (by rfl) (by repeat (first | exact List.Mem.head _ | refine List.Mem.tail _ ?_)) (by assumption)) ?_)
  refine RS.on (dj := 117) rfl (congrArg Value.bool rfl) ?_
  refine RS.qv rfl (QO.neq (by rfl) (by rfl)) (congrArg Value.bool (bne_self_eq_false _)) ?_
  refine RS.q rfl (QO.pickF (by rfl) rfl (by rfl)) ?_
  refine RS.nil ?_
  refine thenC_n ?_
  refine CS.condF (by rfl) rfl ?_
  refine CS.skip ?_
  refine thenC_n ?_
  refine CS.seq ?_
  refine CS.region ?_
  first | (refine RS.q rfl (QO.loadB ty26 (by rfl) (by repeat (first | exact List.Mem.head _ | refine List.Mem.tail _ ?_)) (by rfl)) ?_) | (refine RS.q rfl (QO.loadA ty26 (by rfl) (by repeat (first | exact List.Mem.head _ | refine List.Mem.tail _ ?_)) (by rfl) (by rfl)) ?_) | (refine RS.q rfl (QO.loadOA ty26 (by rfl) (by assumption) (by rfl)) ?_)
  refine RS.q rfl (QO.move) ?_
  refine RS.q rfl (QO.move) ?_
  refine RS.call rfl (by rfl) ok22 (by rfl) (fun w ho => rRank X Y a b _ _ _ ys ch _ rfl (FS.blk' ho (by repeat (first | exact List.Mem.head _ | refine List.Mem.tail _ ?_))) hfr hN (Nat.le_refl _) hcm ha hb h32 h0 h4 p hp) ?_
  rintro _ _ ⟨d2, rfl, m2, s2, rfl⟩
  have hrk := rk_lt (N := a * b) (p := p) (by omega) hp
  have hru := rank_uniqN (chV_len ys ch (a * b)) (chV_ok h32 ch (a * b)) m1.2.2 m2.2.2 s1 s2 hrk
  refine RS.q rfl (QO.move) ?_
  refine RS.q rfl (QO.extract (by rfl) (by rfl)) ?_
  refine RS.q rfl (QO.extract (by rfl) (by rfl)) ?_
  refine RS.q rfl (QO.assign) ?_
  refine RS.q rfl (QO.assign) ?_
  refine RS.nil ?_
  refine thenC_n ?_
  refine CS.seq ?_
  refine CS.region ?_
  refine RS.q rfl (QO.move) ?_
  refine RS.q rfl (QO.move) ?_
  refine RS.q rfl (QO.eql (by rfl) (by rfl)) ?_
  refine RS.q rfl (QO.move) ?_
  refine RS.on (dj := 134) rfl (congrArg Value.bool rfl) ?_
  refine RS.q rfl (QO.move) ?_
  refine RS.on (dj := 134) rfl (congrArg Value.bool rfl) ?_
  refine RS.q rfl (QO.move) ?_
  refine RS.on (dj := 134) rfl (congrArg Value.bool rfl) ?_
  refine RS.call rfl (by rfl) ok20 (by rfl) (fun w ho => exact_true _ _ hru _) ?_
  rintro _ _ ⟨rfl, rfl⟩
  refine RS.q rfl (QO.pickT (by rfl) rfl (by rfl)) ?_
  refine RS.q rfl (QO.assign) ?_
  refine RS.nil ?_
  refine thenC_n ?_
  refine CS.ret ?_
  refine retQ.mk (H' := []) (.inr rfl) (RVs.tmp (by rfl) RVs.nil) (List.nil_sublist _) ?_
  exact ⟨rfl, rfl⟩

theorem extents_ (x y wi he : Int) (A : Option Addr) (n c : Nat) (xs : List Nat) (ch p : Int) (W : World) (hn : xs.length = n) (hA : FS W A xs) (hlx : n ≤ maxLen) (hx32 : ∀ u ∈ xs, u < 4294967296) : Fn_ Try.prog 4 #[.agg #[iv x, iv y, iv wi, iv he, .slice A n c], iv ch, iv p] W (fun v H => v = .bool true ∧ H = []) := by
  by_cases hch : 0 ≤ ch ∧ ch ≤ 4
  · by_cases hp : 0 ≤ p ∧ p ≤ 100
    · obtain ⟨q, rfl⟩ : ∃ q : Nat, p = q := ⟨p.toNat, by omega⟩
      exact extOk x y wi he A n c xs ch q W hn hA hlx hx32 hch.1 hch.2 (by omega)
    · exact extPart x y wi he A n c xs ch p W hn hA hlx hx32 hch.1 hch.2 hp
  · exact extBad x y wi he A n c xs ch p W hn hA hlx hx32 hch

end Go.Proofs.Ytapcgokcfmklbaa

namespace Go.Proofs.Ytapcgokcfmklbaa
open Go Go.ChangeShapes Go.WideShapes Go.ChangeAt Go.RowKit
open Go.ChangeMaps (open_string shut_string)

theorem extentsMatch_own : ownKnob Try.prog.godebug = none := by kernel_rfl
theorem extentsMatch_laidOut : laidOutB Try.prog = true := by kernel_rfl
theorem extentsMatch_lv26 : leaves Try.prog 9 26 = some [3, 3, 3, 3, 24] := by kernel_rfl
theorem extentsMatch_co29 : Try.prog.cellsOf 29 = 1 := by kernel_rfl

set_option maxHeartbeats 4000000 in
set_option maxRecDepth 100000 in
theorem extentsMatch_lifted (os : Os) (started : os.Started) (H : Type) (enc : TypeId × Value → H) :
    ReturnsInHanded {} Try.checked os 4 .any (Rows.extentsMatchSpec.pre6 enc Try.prog Try.f4 Rows.extentsMatchRow.domain false) (Rows.extentsMatchSpec.post enc Try.prog Try.f4 false true false false) := by
  refine returnsInHanded_of_change (C := Try.checked) extentsMatch_own started (by kernel_rfl) Try.func4
    (ChangeSpec.witness6 (enc := enc) (C := Try.checked) false ⟨#[], #[.agg #[.int .i64 0, .int .i64 0, .int .i64 0, .int .i64 0, .slice none 0 0], .int .i64 0, .int .i64 0], []⟩ 8 (by kernel_rfl) (by kernel_rfl) (by kernel_rfl) (by kernel_rfl)) ?_
  intro W base args ds gs before hval0 hW hcnd _
  have hval : ∀ (j : Nat) t v, Try.f4.params[j]? = some t → args[j]? = some v → Value.okWide Try.prog W .any base t v := hval0
  have hW' := hW
  obtain ⟨p, q, hA0, hV, rfl, hfz, hnd⟩ := hW
  have hA : DataW.TrodAll enc Try.prog W 0 (fun _ => true) true Try.f4.params.toList args.toList ds p := hA0
  rw [Try.params4] at hA hval
  obtain ⟨v0, vs0, d0, ds0, p0, q0, hargs, rfl, rfl, h0, r0⟩ := trodAll_cons hA
  obtain ⟨v1, vs1, d1, ds1, p1, q1, rfl, rfl, rfl, h1, r1⟩ := trodAll_cons r0
  obtain ⟨v2, vs2, d2, ds2, p2, q2, rfl, rfl, rfl, h2, r2⟩ := trodAll_cons r1
  obtain ⟨rfl, rfl, rfl⟩ := trodAll_nil r2
  obtain rfl : args = #[v0, v1, v2] := by cases args; simp_all
  obtain ⟨rfl, rfl⟩ := trodVars_none hV
  have k0 := h0
  have lt0 : ∀ x ∈ p0, x.block < W.heap.size := by obtain ⟨m, hm⟩ := k0; exact DataW.trod_lt m _ _ _ hm
  have k1 := h1
  have lt1 : ∀ x ∈ p1, x.block < W.heap.size := by obtain ⟨m, hm⟩ := k1; exact DataW.trod_lt m _ _ _ hm
  have k2 := h2
  have lt2 : ∀ x ∈ p2, x.block < W.heap.size := by obtain ⟨m, hm⟩ := k2; exact DataW.trod_lt m _ _ _ hm
  obtain ⟨cs0, rfl, a0⟩ := open_agg Try.underlying26 extentsMatch_lv26 (hval 0 26 v0 rfl rfl) h0
  obtain ⟨c0_0, cs0_0, rfl, l0_0, a0_0⟩ := a0.cons_inv
  obtain ⟨c0_1, cs0_1, rfl, l0_1, a0_1⟩ := a0_0.cons_inv
  obtain ⟨c0_2, cs0_2, rfl, l0_2, a0_2⟩ := a0_1.cons_inv
  obtain ⟨c0_3, cs0_3, rfl, l0_3, a0_3⟩ := a0_2.cons_inv
  obtain ⟨c0_4, cs0_4, rfl, l0_4, a0_4⟩ := a0_3.cons_inv
  obtain rfl := a0_4.nil_inv
  obtain ⟨x, el0_0, l0_0_w⟩ := l0_0.int Try.underlying3
  cases el0_0
  obtain ⟨y, el0_1, l0_1_w⟩ := l0_1.int Try.underlying3
  cases el0_1
  obtain ⟨wi, el0_2, l0_2_w⟩ := l0_2.int Try.underlying3
  cases el0_2
  obtain ⟨he, el0_3, l0_3_w⟩ := l0_3.int Try.underlying3
  cases el0_3
  obtain ⟨xs_A, xs_n, xs_c, xs, el0_4, xs_m, xs_l, xs_f, xs_b⟩ := l0_4.floats Try.underlying24 Try.underlying29 extentsMatch_co29
  cases el0_4
  have hc1 : v1.cells.toList = [v1] := by obtain ⟨_, rfl⟩ := okWide_int Try.underlying3 (hval 1 3 v1 rfl rfl); rfl
  have l1 := leaf_of h1 hc1
  obtain ⟨ch, el1, l1_w⟩ := l1.int Try.underlying3
  cases el1
  have hc2 : v2.cells.toList = [v2] := by obtain ⟨_, rfl⟩ := okWide_int Try.underlying3 (hval 2 3 v2 rfl rfl); rfl
  have l2 := leaf_of h2 hc2
  obtain ⟨p, el2, l2_w⟩ := l2.int Try.underlying3
  cases el2
  clear hA0 hval0
  refine Calls.mono (extents_ x y wi he xs_A xs_n xs_c xs ch p W xs_l xs_f xs_m (fun u hu => xs_b u hu)) fun e W' hp => ?_
  obtain ⟨v, HL, rfl, own, rfl, rfl⟩ := hp
  have bel := own.below
  exact ⟨_, rfl, _, _, _, [], _, [], hW', trodAll_mk1 (shut_bool Try.underlying4 _), (trodAll_cons_mk (Below.trod extentsMatch_laidOut (by kernel_rfl) (of_decide_eq_true (by kernel_rfl)) k0 bel lt0) (trodAll_cons_mk (Below.trod extentsMatch_laidOut (by kernel_rfl) (of_decide_eq_true (by kernel_rfl)) k1 bel lt1) (trodAll_cons_mk (Below.trod extentsMatch_laidOut (by kernel_rfl) (of_decide_eq_true (by kernel_rfl)) k2 bel lt2) trodAll_mk0))), rfl, bel.frame _, fun h => by cases h⟩

theorem extentsMatch_over : Rows.extentsMatchRow.holds Try.pinned (OpenSpec.ofChange Rows.extentsMatchSpec) :=
  OpenClaim.holds_of_wide 4 Try.f4 rfl rfl rfl rfl rfl rfl rfl ⟨rfl, rfl, rfl, rfl, rfl⟩ rfl rfl rfl rfl rfl (by kernel_rfl) Try.func4 (by kernel_rfl)
    (of_decide_eq_true (by kernel_rfl)) (by unfold Func.isWrapper; first | (rw [if_pos (by decide +kernel)]; kernel_rfl) | (rw [if_neg (by decide +kernel)]; exact ⟨rfl, rfl⟩))
    (fun os started H enc _ => extentsMatch_lifted os started H enc)

/-- THE STATEMENT. -/
theorem extents_holds : Rows.ExtentsMatchSaid := extentsMatch_over
#print axioms extents_holds
end Go.Proofs.Ytapcgokcfmklbaa
